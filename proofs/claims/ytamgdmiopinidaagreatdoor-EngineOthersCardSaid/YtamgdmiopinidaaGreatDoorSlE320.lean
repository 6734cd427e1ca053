/- Contracts that the proof of E3 uses. No condition beyond those in each theorem. -/
import Derived.Test.YtamgdmiopinidaaGreatDoorSlE39
import Derived.Test.YtamgdmiopinidaaGreatDoorSlE319
import Derived.Laws.IdiomStrings
set_option linter.unusedVariables false
set_option linter.unusedSimpArgs false
set_option maxHeartbeats 8000000
set_option maxRecDepth 100000
namespace Go.Proofs.YtamgdmiopinidaaGreatDoor
open Lib (hid)
open Go.Proofs.Tryz (prog)
open Go.RowKit
inductive Cm where
 | ping|get|set_|append_|strlen|incrby|getrange|del|exists_|type_|keys_|expire|ttl|persist
 | lpush|rpush|lpop|rpop|lrange|ltrim|lrem|sadd|srem|sismember|smembers|sinter|sunion|sdiff
 | hset|hget|hdel|hgetall|zadd|zrem|zscore|zrank|zrange|zrangebyscore
deriving DecidableEq
def Cm.bs:Cm→List UInt8
 | .ping=>[112,105,110,103]
 | .get=>[103,101,116]
 | .set_=>[115,101,116]
 | .append_=>[97,112,112,101,110,100]
 | .strlen=>[115,116,114,108,101,110]
 | .incrby=>[105,110,99,114,98,121]
 | .getrange=>[103,101,116,114,97,110,103,101]
 | .del=>[100,101,108]
 | .exists_=>[101,120,105,115,116,115]
 | .type_=>[116,121,112,101]
 | .keys_=>[107,101,121,115]
 | .expire=>[101,120,112,105,114,101]
 | .ttl=>[116,116,108]
 | .persist=>[112,101,114,115,105,115,116]
 | .lpush=>[108,112,117,115,104]
 | .rpush=>[114,112,117,115,104]
 | .lpop=>[108,112,111,112]
 | .rpop=>[114,112,111,112]
 | .lrange=>[108,114,97,110,103,101]
 | .ltrim=>[108,116,114,105,109]
 | .lrem=>[108,114,101,109]
 | .sadd=>[115,97,100,100]
 | .srem=>[115,114,101,109]
 | .sismember=>[115,105,115,109,101,109,98,101,114]
 | .smembers=>[115,109,101,109,98,101,114,115]
 | .sinter=>[115,105,110,116,101,114]
 | .sunion=>[115,117,110,105,111,110]
 | .sdiff=>[115,100,105,102,102]
 | .hset=>[104,115,101,116]
 | .hget=>[104,103,101,116]
 | .hdel=>[104,100,101,108]
 | .hgetall=>[104,103,101,116,97,108,108]
 | .zadd=>[122,97,100,100]
 | .zrem=>[122,114,101,109]
 | .zscore=>[122,115,99,111,114,101]
 | .zrank=>[122,114,97,110,107]
 | .zrange=>[122,114,97,110,103,101]
 | .zrangebyscore=>[122,114,97,110,103,101,98,121,115,99,111,114,101]
def Cm.all:List Cm:=[.ping,.get,.set_,.append_,.strlen,.incrby,.getrange,.del,.exists_,.type_,.keys_,.expire,.ttl,.persist,.lpush,.rpush,.lpop,.rpop,.lrange,.ltrim,.lrem,.sadd,.srem,.sismember,.smembers,.sinter,.sunion,.sdiff,.hset,.hget,.hdel,.hgetall,.zadd,.zrem,.zscore,.zrank,.zrange,.zrangebyscore]
theorem Cm.mem_all(c:Cm):c∈Cm.all:=by cases c <;> decide
def zwn(s:List UInt8):Option Cm:=Cm.all.find? fun c=>decide (c.bs=s)
theorem zgs{s:List UInt8}{c:Cm}(h:zwn s=some c):s=c.bs:=by
 have:=List.find?_some h
 exact(of_decide_eq_true this).symm
theorem zqw{s:List UInt8}(h:zwn s=none)(c:Cm):s≠c.bs:=fun e=>by
 have:=List.find?_eq_none.1 h c c.mem_all
 exact this (decide_eq_true e.symm)
def zdd(c:UInt8):UInt8:=if 65≤c.toNat∧c.toNat≤90 then c+32 else c
def zrv(s:ByteArray):List UInt8:=s.data.toList.map zdd
def cmL(l:List ByteArray):Option Cm:=zwn (zrv (l.getD 0 ⟨#[]⟩))
structure Shp where
 least:Nat
 most:Option Nat
 pairs:Bool
 nums:Nat
def Cm.shp:Cm→Shp
 | .ping=>⟨0,some 0,false,0⟩
 | .get|.strlen|.type_|.ttl|.persist|.keys_|.lpop|.rpop|.smembers|.hgetall=>⟨1,some 1,false,0⟩
 | .set_|.append_|.lrem|.sismember|.hget|.zscore|.zrank=>⟨2,some 2,false,0⟩
 | .incrby|.expire=>⟨2,some 2,false,1⟩
 | .getrange|.lrange|.ltrim|.zrange|.zrangebyscore=>⟨3,some 3,false,2⟩
 | .del|.exists_|.sinter|.sunion|.sdiff=>⟨1,none,false,0⟩
 | .lpush|.rpush|.sadd|.srem|.hdel|.zrem=>⟨2,none,false,0⟩
 | .hset=>⟨3,none,true,0⟩
 | .zadd=>⟨3,none,true,3⟩
def Shp.num(s:Shp)(i:Nat):Bool:=match s.nums with
 | 0=>false
 | 1=>decide (i=1)
 | 2=>decide (i=1)||decide (i=2)
 | _=>decide (i % 2=1)
def Shp.bad(s:Shp)(n:Nat):Bool:=decide (n < s.least)||(match s.most with|some m=>decide (m < n)|none=>false)||(s.pairs&&decide (n % 2=0))
def isN(s:ByteArray):Bool:=(z3v s.data.toList).isSome
def z5e(s:Shp):Nat→List ByteArray→Bool
 | _,[]=>true
 | i,w :: l=>(!s.num i||isN w)&&z5e s (i+1) l
def z1l(l:List ByteArray):Int:=
 if z0r l≠0 then z0r l
 else match cmL l with
  | none=>5
  | some c=>if c.shp.bad (l.length - 1)=true then 1 else if z5e c.shp 0 (l.drop 1)=true then 0 else 3
def z78(e:Int):Rep:=⟨2,⟨#[]⟩,e,[]⟩
def z2x(s:ByteArray):Rep:=⟨1,s,0,[]⟩
def z0h(n:Int):Rep:=⟨3,⟨#[]⟩,n,[]⟩
def z1b(s:ByteArray):Rep:=⟨4,s,0,[]⟩
def zbq:Rep:=⟨5,⟨#[]⟩,0,[]⟩
def z25(l:List ByteArray):Rep:=⟨6,⟨#[]⟩,0,l.map fun s=>⟨4,s,0,0⟩⟩
def tOK:ByteArray:=⟨#[79,75]⟩
def zy6:ByteArray:=⟨#[80,79,78,71]⟩
def zio(k:Int):ByteArray:=
 if k=0 then toB [110,111,110,101] else if k=1 then toB [115,116,114,105,110,103] else if k=2 then toB [108,105,115,116]
 else if k=3 then toB [115,101,116] else if k=4 then toB [104,97,115,104] else toB [122,115,101,116]
def fin(s:List Ent)(now:Int)(key:ByteArray)(y:Itm)(til:Int)(chg nn:Bool)(e:Int)(r:Rep):List Ent×Rep:=
 if e=0 then
  if chg=true then (if z1e s now key y til=0 then (z5l s now key y til,r) else (s,z78 (z1e s now key y til))) else (s,r)
 else if e=5∧nn=true then (s,zbq) else (s,z78 e)
def wd(l:List ByteArray)(i:Nat):ByteArray:=l.getD i ⟨#[]⟩
def wn(l:List ByteArray)(i:Nat):Int:=(z3v (wd l i).data.toList).getD 0
def z3x(s:List Ent)(now:Int)(k:ByteArray):Bool:=decide ((z00 s now k).item.kind≠0)
def z8c(now:Int):List ByteArray→List Ent→Nat→List Ent×Nat
 | [],s,n=>(s,n)
 | k :: l,s,n=>z8c now l (z5l s now k (z2r 0) 0) (n+if z3x s now k=true then 1 else 0)
def z1p:List ByteArray→List (ByteArray×ByteArray)
 | a :: b :: l=>(a,b) :: z1p l
 | _=>[]
def z0z:List ByteArray→List (Int×ByteArray)
 | a :: b :: l=>((z3v a.data.toList).getD 0,b) :: z0z l
 | _=>[]
def z05(s:List Ent)(now:Int)(l:List ByteArray):List Itm:=l.map fun k=>(z00 s now k).item
def doC(c:Cm)(s:List Ent)(now:Int)(l:List ByteArray):List Ent×Rep:=
 let key:=wd l 1
 let was:=z00 s now key
 let x:=was.item
 let til:=was.til
 match c with
 | .ping=>(s,z2x zy6)
 | .get=>if x.kind=0 then fin s now key x til false false (z02 1 x) zbq else fin s now key x til false false (z02 1 x) (z1b x.text)
 | .set_=>fin s now key (z27 (wd l 2)) 0 true false 0 (z2x tOK)
 | .append_=>fin s now key (apY x (wd l 2)) til true false (z3e x (wd l 2)) (z0h (apN x (wd l 2)))
 | .strlen=>fin s now key x til false false (z02 1 x) (z0h (lnN x))
 | .incrby=>fin s now key (adY x (wn l 2)) til true false (z3r x (wn l 2)) (z0h (adN x (wn l 2)))
 | .getrange=>fin s now key x til false false (z02 1 x) (z1b (rgS x (wn l 2) (wn l 3)))
 | .del=>((z8c now (l.drop 1) s 0).1,z0h (z8c now (l.drop 1) s 0).2)
 | .exists_=>(s,z0h (((l.drop 1).filter fun k=>z3x s now k).length:Nat))
 | .type_=>(s,z2x (zio x.kind))
 | .keys_=>fin s now key x til false false (z0y key) (z25 (z8b s now key))
 | .expire=>if x.kind=0 then (s,z0h 0) else if wn l 2 < 1 then fin s now key (z2r 0) (now+wn l 2) true false 0 (z0h 1) else fin s now key x (now+wn l 2) true false (if 1000000 < now+wn l 2 then 3 else 0) (z0h 1)
 | .ttl=>(s,z0h (if x.kind=0 then -2 else if til=0 then -1 else til - now))
 | .persist=>if x.kind=0∨til=0 then (s,z0h 0) else fin s now key x 0 true false 0 (z0h 1)
 | .lpush=>fin s now key (z8p x true (l.drop 2)) til true false (z14 x (l.drop 2)) (z0h (zbe x true (l.drop 2)))
 | .rpush=>fin s now key (z8p x false (l.drop 2)) til true false (z14 x (l.drop 2)) (z0h (zbe x false (l.drop 2)))
 | .lpop=>fin s now key (zdu x true) til true true (z1u x) (z1b (zr3 x true))
 | .rpop=>fin s now key (zdu x false) til true true (z1u x) (z1b (zr3 x false))
 | .lrange=>fin s now key x til false false (z02 2 x) (z25 (z29 x.list (wn l 2) (wn l 3)))
 | .ltrim=>fin s now key (ofL (z29 x.list (wn l 2) (wn l 3))) til true false (z02 2 x) (z2x tOK)
 | .lrem=>fin s now key (zmz x (wd l 2)) til true false (z02 2 x) (z0h (zud x (wd l 2)))
 | .sadd=>fin s now key (z9c x (l.drop 2)) til true false (zdf x (l.drop 2)) (z0h (zdh x (l.drop 2)))
 | .srem=>fin s now key (z60 3 x (l.drop 2)) til true false (z02 3 x) (z0h (z9r 3 x (l.drop 2)))
 | .sismember=>fin s now key x til false false (z02 3 x) (z0h (if z4z x.list (wd l 2)=true then 1 else 0))
 | .smembers=>fin s now key x til false false (z0u (z05 s now (l.drop 1))) (z25 (z2b z6m (z05 s now (l.drop 1))))
 | .sunion=>fin s now key x til false false (z0u (z05 s now (l.drop 1))) (z25 (z2b z6m (z05 s now (l.drop 1))))
 | .sinter=>fin s now key x til false false (z0u (z05 s now (l.drop 1))) (z25 (z2b (zaq (z05 s now (l.drop 1)).length) (z05 s now (l.drop 1))))
 | .sdiff=>fin s now key x til false false (z0u (z05 s now (l.drop 1))) (z25 (z2b z8k (z05 s now (l.drop 1))))
 | .hset=>fin s now key (zl9 x (z1p (l.drop 2))) til true false (z1v x (z1p (l.drop 2))) (z0h (zr6 x (z1p (l.drop 2))))
 | .hget=>fin s now key x til false true (z5k x (wd l 2)) (z1b (zr5 x (wd l 2)))
 | .hdel=>fin s now key (z9j x (l.drop 2)) til true false (z02 4 x) (z0h (zdj x (l.drop 2)))
 | .hgetall=>fin s now key x til false false (z02 4 x) (z25 (x.pairs.flatMap fun p=>[p.1,p.2]))
 | .zadd=>fin s now key (z9i x (z0z (l.drop 2))) til true false (zbk x (z0z (l.drop 2))) (z0h (zdy x (z0z (l.drop 2))))
 | .zrem=>fin s now key (z61 x (l.drop 2)) til true false (z02 5 x) (z0h (z9y x (l.drop 2)))
 | .zscore=>fin s now key x til false true (z19 x (wd l 2)) (z0h (zqx x (wd l 2)))
 | .zrank=>fin s now key x til false true (z19 x (wd l 2)) (z0h (z9a x (wd l 2)))
 | .zrange=>fin s now key x til false false (z02 5 x) (z25 (z65 x (wn l 2) (wn l 3)))
 | .zrangebyscore=>fin s now key x til false false (z02 5 x) (z25 (z48 x (wn l 2) (wn l 3)))
def doR(s:List Ent)(now:Int)(l:List ByteArray):List Ent×Rep:=
 if z1l l≠0 then (s,z78 (z1l l))
 else match cmL l with
  | none=>(s,z78 5)
  | some c=>doC c s now l
structure RelL{α:Type}(P:List Value→α→Prop)(rs:List (List Value))(l:List α):Prop where
 len:rs.length=l.length
 at_:∀(i:Nat) (x:α),l[i]? = some x→∃cs:List Value,rs[i]? = some cs∧P cs x
theorem RelL.mem{α:Type}{P:List Value→α→Prop}{rs:List (List Value)}{l:List α}(h:RelL P rs l){c:List Value}(hc:c∈rs):∃x,x∈l∧P c x:=by
 obtain⟨i,hi⟩:=List.getElem?_of_mem hc
 have hlt:=(List.getElem?_eq_some_iff.1 hi).1
 obtain⟨d,h1,h2⟩:=h.at_ i _ (List.getElem?_eq_getElem (show i < l.length by rw[←h.len];exact hlt))
 rw[hi] at h1
 cases h1
 exact⟨_,List.getElem_mem _,h2⟩
def rp4(x:Rp1)(A:Option Addr)(c:Nat):List Value:=[.int .i64 x.kind,.string x.text,.int .i64 x.n,.slice A x.sub c]
def RpC(cs:List Value)(x:Rp1):Prop:=∃A c,cs=rp4 x A c
def zca(w:World)(B:Nat)(v:Value)(r:Rep):Prop:=
 ∃A c,∃rs:List (List Value),v=.agg #[.int .i64 r.kind,.string r.text,.int .i64 r.n,.slice A r.list.length c]∧RelL RpC rs r.list∧Sl w B 4 (.slice A r.list.length c) r.list.length rs.flatten
theorem zca.fr{w w':World}{B:Nat}{S:List Nat}{v:Value}{r:Rep}(h:zca w B v r)(hf:Fr S w w')(hB:B≤w.heap.size)(hS:∀k,k∈S→B≤k):zca w' B v r:=by
 obtain⟨A,c,rs,e,hr,hs⟩:=h
 exact⟨A,c,rs,e,hr,hs.fr hf hB hS⟩
theorem zca.more{w:World}{B B':Nat}{v:Value}{r:Rep}(h:zca w B v r)(hB:B≤B'):zca w B' v r:=by
 obtain⟨A,c,rs,e,hr,hs⟩:=h
 exact⟨A,c,rs,e,hr,hs.more hB⟩
theorem zca.go{w w':World}{v:Value}{r:Rep}(h:zca w w.heap.size v r)(hf:Fr [] w w'):zca w' w'.heap.size v r:=(h.fr hf (Nat.le_refl _) (by simp)).more hf.size
theorem zca.form{w:World}{B:Nat}{v:Value}{r:Rep}(h:zca w B v r):∃A c,v=.agg #[.int .i64 r.kind,.string r.text,.int .i64 r.n,.slice A r.list.length c]:=by
 obtain⟨A,c,rs,e,_⟩:=h
 exact⟨A,c,e⟩
structure At4(w:World)(b o:Nat)(x:Rp1)(A:Option Addr)(c:Nat):Prop where
 k0:w.cell? ⟨b,o,none⟩=some (.int .i64 x.kind)
 k1:w.cell? ⟨b,o+1,none⟩=some (.string x.text)
 k2:w.cell? ⟨b,o+2,none⟩=some (.int .i64 x.n)
 k3:w.cell? ⟨b,o+3,none⟩=some (.slice A x.sub c)
theorem At4.fr{w w':World}{b o:Nat}{x:Rp1}{A:Option Addr}{c:Nat}{S:List Nat}(h:At4 w b o x A c)(hf:Fr S w w')(hn:b∉S):At4 w' b o x A c:=
 ⟨hf.cell h.k0 hn,hf.cell h.k1 hn,hf.cell h.k2 hn,hf.cell h.k3 hn⟩
theorem zca.at_{w:World}{B:Nat}{A:Option Addr}{c:Nat}{r:Rep}(h:zca w B (.agg #[.int .i64 r.kind,.string r.text,.int .i64 r.n,.slice A r.list.length c]) r)(hn:0 < r.list.length) :
  ∃b off,A=some ⟨b,off,none⟩∧b < B∧r.list.length≤c∧c≤maxLen∧∀(i:Nat) (x:Rp1),r.list[i]? = some x→∃A1 c1,At4 w b (off+i * 4) x A1 c1:=by
 obtain⟨A',c',rs,hv,hr,hs⟩:=h
 simp at hv
 obtain⟨rfl,rfl⟩:=hv
 obtain⟨b,off,rfl,hb,hc,hm,hcell⟩:=hs.at_ hn
 refine⟨b,off,rfl,hb,hc,hm,fun i x hx=>?_⟩
 obtain⟨cs,hcs,A1,c1,rfl⟩:=hr.at_ i x hx
 have all4:∀c∈rs,c.length=4:=fun c hc=>by
  obtain⟨y,_,A2,c2,rfl⟩:=hr.mem hc
  rfl
 have g:∀j u,j < 4→(rp4 x A1 c1)[j]? = some u→w.cell? ⟨b,off+(i * 4+j),none⟩=some u:=fun j u hj hu=>
  hcell _ _ (by rw[z4q 4 rs i j _ all4 hcs hj];exact hu)
 exact⟨A1,c1,g 0 _ (by decide) rfl,by rw[Nat.add_assoc];exact g 1 _ (by decide) rfl,by rw[Nat.add_assoc];exact g 2 _ (by decide) rfl,by rw[Nat.add_assoc];exact g 3 _ (by decide) rfl⟩
def z72(l:List Rp1):List Value:=l.flatMap fun x=>rp4 x none 0
def z1f(w:World)(base:Nat)(v:Value)(r:Rep):Prop:=(∀x∈r.list,x.sub=0)∧∃u,v=.agg #[.int .i64 r.kind,.string r.text,.int .i64 r.n,u]∧w.ownsRow base 27 4 u r.list.length (z72 r.list)
theorem z1f.v{w:World}{base:Nat}{v:Value}{r:Rep}(h:z1f w base v r):zca w w.heap.size v r:=by
 obtain⟨h0,u,rfl,ho⟩:=h
 obtain⟨A,c,rfl,-⟩:=z06 ho
 refine⟨A,c,r.list.map fun x=>rp4 x none 0,rfl,⟨by simp,fun i x hx=>⟨rp4 x none 0,by rw[List.getElem?_map,hx];rfl,none,0,rfl⟩⟩,?_⟩
 have:=z0t ho
 unfold z72 at this
 rw[List.flatMap_def] at this
 exact this
theorem z1f.form{w:World}{base:Nat}{v:Value}{r:Rep}(h:z1f w base v r):∃A c,v=.agg #[.int .i64 r.kind,.string r.text,.int .i64 r.n,.slice A r.list.length c]:=h.v.form
theorem z1f.fr{w w':World}{base:Nat}{v:Value}{r:Rep}(h:z1f w base v r)(hf:Fr [] w w'):z1f w' base v r:=by
 obtain⟨h0,u,rfl,ho⟩:=h
 exact⟨h0,u,rfl,z0n ho hf (by simp)⟩
theorem z1f.base{w:World}{base base':Nat}{v:Value}{r:Rep}(h:z1f w base v r)(hb:base'≤base):z1f w base' v r:=by
 obtain⟨h0,u,rfl,ho⟩:=h
 exact⟨h0,u,rfl,z1d ho hb⟩
theorem z1f.bare(w:World)(base:Nat)(k n:Int)(t:ByteArray):z1f w base (.agg #[.int .i64 k,.string t,.int .i64 n,.slice none 0 0]) ⟨k,t,n,[]⟩:=
 ⟨(fun x hx=>by cases hx),_,rfl,World.ownsRow_nil _ _ _ _⟩
theorem four{w:World}{g t:Nat}{a b c d:Value}(hw:Whole w g t [a,b,c,d]) :
  w.cell? ⟨g,0,none⟩=some a∧w.cell? ⟨g,1,none⟩=some b∧w.cell? ⟨g,2,none⟩=some c∧w.cell? ⟨g,3,none⟩=some d:=⟨hw.cell 0,hw.cell 1,hw.cell 2,hw.cell 3⟩
theorem z0w{w:World}{g t:Nat}{a b c d:Value}(hw:Whole w g t [a,b,c,d]) :
  w.frozen? ⟨g,0,none⟩=false∧w.frozen? ⟨g,1,none⟩=false∧w.frozen? ⟨g,2,none⟩=false∧w.frozen? ⟨g,3,none⟩=false:=⟨hw.frozen 0,hw.frozen 1,hw.frozen 2,hw.frozen 3⟩
theorem zoh:(prog.info? 27).map (fun i=>(i.zero,i.size,i.bytes))=some (some (.agg #[.int .i64 0,.string ⟨#[]⟩,.int .i64 0,.slice none 0 0]),4,56):=by kernel_rfl
attribute [local go_sem] z1k
attribute [local go_sem] z1k
attribute [local go_sem] z1k
attribute [local go_sem] z1k
def set4(w:World)(o:Nat)(a b c d:Value):World:=(((w.setCell ⟨o,0,none⟩ a).setCell ⟨o,1,none⟩ b).setCell ⟨o,2,none⟩ c).setCell ⟨o,3,none⟩ d
theorem z1o{S:List Nat}{w w':World}{o:Nat}(h:Fr S w w')(ho:w.heap.size≤o)(x y z u:Value):Fr S w (set4 w' o x y z u):=
 (((h.setCell (p:=⟨o,0,none⟩) (.inr ho) x).setCell (p:=⟨o,1,none⟩) (.inr ho) y).setCell (p:=⟨o,2,none⟩) (.inr ho) z).setCell (p:=⟨o,3,none⟩) (.inr ho) u
def zfq(n:Nat):ByteArray:=match n with
 | 0=>⟨#[]⟩
 | 1=>⟨#[49]⟩
 | 2=>⟨#[49,50]⟩
 | _=>⟨#[112]⟩
def zlt(m:Option Nat):Int:=match m with
 | some m=>(m:Int)
 | none=>-1
def shpV(s:Shp):Value:=.agg #[.int .i64 (s.least:Int),.int .i64 (zlt s.most),.bool s.pairs,.string (zfq s.nums)]
theorem of_k0(t:ByteArray)(ht:t=⟨#[112,105,110,103]⟩)(w:World):Calls prog 64 #[.string t] w fun e w'=>e=.returned (.tuple #[.agg #[.int .i64 0,.int .i64 0,.bool false,.string ⟨#[]⟩],.bool true])∧Fr [] w w':=by
 have F0:=hid ((Fr.refl [] w).alloc (.cells #[.int .i64 0,.int .i64 0,.bool false,.string ⟨#[]⟩] 98))
 subst ht
 all_goals
  go_enter Tryz.func64,Tryz.ntmps64
  go_wp2
  refine bodyPost_ret (v:=.tuple #[.agg #[.int .i64 0,.int .i64 0,.bool false,.string ⟨#[]⟩],.bool true]) (by simp[results,Tryz.results64,go_sem]) rfl ?_
  exact⟨rfl,((((Fr.refl [] w).alloc _))) ⟩
theorem zdp(t:ByteArray)(ht:t=⟨#[103,101,116]⟩∨t=⟨#[115,116,114,108,101,110]⟩∨t=⟨#[116,121,112,101]⟩∨t=⟨#[107,101,121,115]⟩∨t=⟨#[116,116,108]⟩∨t=⟨#[112,101,114,115,105,115,116]⟩∨t=⟨#[108,112,111,112]⟩∨t=⟨#[114,112,111,112]⟩∨t=⟨#[115,109,101,109,98,101,114,115]⟩∨t=⟨#[104,103,101,116,97,108,108]⟩)(w:World):Calls prog 64 #[.string t] w fun e w'=>e=.returned (.tuple #[.agg #[.int .i64 1,.int .i64 1,.bool false,.string ⟨#[]⟩],.bool true])∧Fr [] w w':=by
 have F0:=hid ((Fr.refl [] w).alloc (.cells #[.int .i64 0,.int .i64 0,.bool false,.string ⟨#[]⟩] 98))
 rcases ht with rfl|rfl|rfl|rfl|rfl|rfl|rfl|rfl|rfl|rfl
 all_goals
  go_enter Tryz.func64,Tryz.ntmps64
  go_wp2
  refine bodyPost_ret (v:=.tuple #[.agg #[.int .i64 1,.int .i64 1,.bool false,.string ⟨#[]⟩],.bool true]) (by simp[results,Tryz.results64,go_sem]) rfl ?_
  exact⟨rfl,((((Fr.refl [] w).alloc _))) ⟩
theorem zif(t:ByteArray)(ht:t=⟨#[115,101,116]⟩∨t=⟨#[97,112,112,101,110,100]⟩∨t=⟨#[108,114,101,109]⟩∨t=⟨#[115,105,115,109,101,109,98,101,114]⟩∨t=⟨#[104,103,101,116]⟩∨t=⟨#[122,115,99,111,114,101]⟩∨t=⟨#[122,114,97,110,107]⟩)(w:World):Calls prog 64 #[.string t] w fun e w'=>e=.returned (.tuple #[.agg #[.int .i64 2,.int .i64 2,.bool false,.string ⟨#[]⟩],.bool true])∧Fr [] w w':=by
 have F0:=hid ((Fr.refl [] w).alloc (.cells #[.int .i64 0,.int .i64 0,.bool false,.string ⟨#[]⟩] 98))
 rcases ht with rfl|rfl|rfl|rfl|rfl|rfl|rfl
 all_goals
  go_enter Tryz.func64,Tryz.ntmps64
  go_wp2
  refine bodyPost_ret (v:=.tuple #[.agg #[.int .i64 2,.int .i64 2,.bool false,.string ⟨#[]⟩],.bool true]) (by simp[results,Tryz.results64,go_sem]) rfl ?_
  exact⟨rfl,((((Fr.refl [] w).alloc _))) ⟩
theorem zxc(t:ByteArray)(ht:t=⟨#[105,110,99,114,98,121]⟩∨t=⟨#[101,120,112,105,114,101]⟩)(w:World):Calls prog 64 #[.string t] w fun e w'=>e=.returned (.tuple #[.agg #[.int .i64 2,.int .i64 2,.bool false,.string ⟨#[49]⟩],.bool true])∧Fr [] w w':=by
 have F0:=hid ((Fr.refl [] w).alloc (.cells #[.int .i64 0,.int .i64 0,.bool false,.string ⟨#[]⟩] 98))
 rcases ht with rfl|rfl
 all_goals
  go_enter Tryz.func64,Tryz.ntmps64
  go_wp2
  refine bodyPost_ret (v:=.tuple #[.agg #[.int .i64 2,.int .i64 2,.bool false,.string ⟨#[49]⟩],.bool true]) (by simp[results,Tryz.results64,go_sem]) rfl ?_
  exact⟨rfl,((((Fr.refl [] w).alloc _))) ⟩
theorem zp6(t:ByteArray)(ht:t=⟨#[103,101,116,114,97,110,103,101]⟩∨t=⟨#[108,114,97,110,103,101]⟩∨t=⟨#[108,116,114,105,109]⟩∨t=⟨#[122,114,97,110,103,101]⟩∨t=⟨#[122,114,97,110,103,101,98,121,115,99,111,114,101]⟩)(w:World):Calls prog 64 #[.string t] w fun e w'=>e=.returned (.tuple #[.agg #[.int .i64 3,.int .i64 3,.bool false,.string ⟨#[49,50]⟩],.bool true])∧Fr [] w w':=by
 have F0:=hid ((Fr.refl [] w).alloc (.cells #[.int .i64 0,.int .i64 0,.bool false,.string ⟨#[]⟩] 98))
 rcases ht with rfl|rfl|rfl|rfl|rfl
 all_goals
  go_enter Tryz.func64,Tryz.ntmps64
  go_wp2
  refine bodyPost_ret (v:=.tuple #[.agg #[.int .i64 3,.int .i64 3,.bool false,.string ⟨#[49,50]⟩],.bool true]) (by simp[results,Tryz.results64,go_sem]) rfl ?_
  exact⟨rfl,((((Fr.refl [] w).alloc _))) ⟩
theorem zpq(t:ByteArray)(ht:t=⟨#[100,101,108]⟩∨t=⟨#[101,120,105,115,116,115]⟩∨t=⟨#[115,105,110,116,101,114]⟩∨t=⟨#[115,117,110,105,111,110]⟩∨t=⟨#[115,100,105,102,102]⟩)(w:World):Calls prog 64 #[.string t] w fun e w'=>e=.returned (.tuple #[.agg #[.int .i64 1,.int .i64 (-1),.bool false,.string ⟨#[]⟩],.bool true])∧Fr [] w w':=by
 have F0:=hid ((Fr.refl [] w).alloc (.cells #[.int .i64 0,.int .i64 0,.bool false,.string ⟨#[]⟩] 98))
 rcases ht with rfl|rfl|rfl|rfl|rfl
 all_goals
  go_enter Tryz.func64,Tryz.ntmps64
  go_wp2
  refine bodyPost_ret (v:=.tuple #[.agg #[.int .i64 1,.int .i64 (-1),.bool false,.string ⟨#[]⟩],.bool true]) (by simp[results,Tryz.results64,go_sem]) rfl ?_
  exact⟨rfl,((((Fr.refl [] w).alloc _))) ⟩
theorem zmh(t:ByteArray)(ht:t=⟨#[108,112,117,115,104]⟩∨t=⟨#[114,112,117,115,104]⟩∨t=⟨#[115,97,100,100]⟩∨t=⟨#[115,114,101,109]⟩∨t=⟨#[104,100,101,108]⟩∨t=⟨#[122,114,101,109]⟩)(w:World):Calls prog 64 #[.string t] w fun e w'=>e=.returned (.tuple #[.agg #[.int .i64 2,.int .i64 (-1),.bool false,.string ⟨#[]⟩],.bool true])∧Fr [] w w':=by
 have F0:=hid ((Fr.refl [] w).alloc (.cells #[.int .i64 0,.int .i64 0,.bool false,.string ⟨#[]⟩] 98))
 rcases ht with rfl|rfl|rfl|rfl|rfl|rfl
 all_goals
  go_enter Tryz.func64,Tryz.ntmps64
  go_wp2
  refine bodyPost_ret (v:=.tuple #[.agg #[.int .i64 2,.int .i64 (-1),.bool false,.string ⟨#[]⟩],.bool true]) (by simp[results,Tryz.results64,go_sem]) rfl ?_
  exact⟨rfl,((((Fr.refl [] w).alloc _))) ⟩
theorem of_k7(t:ByteArray)(ht:t=⟨#[104,115,101,116]⟩)(w:World):Calls prog 64 #[.string t] w fun e w'=>e=.returned (.tuple #[.agg #[.int .i64 3,.int .i64 (-1),.bool true,.string ⟨#[]⟩],.bool true])∧Fr [] w w':=by
 have F0:=hid ((Fr.refl [] w).alloc (.cells #[.int .i64 0,.int .i64 0,.bool false,.string ⟨#[]⟩] 98))
 subst ht
 all_goals
  go_enter Tryz.func64,Tryz.ntmps64
  go_wp2
  refine bodyPost_ret (v:=.tuple #[.agg #[.int .i64 3,.int .i64 (-1),.bool true,.string ⟨#[]⟩],.bool true]) (by simp[results,Tryz.results64,go_sem]) rfl ?_
  exact⟨rfl,((((Fr.refl [] w).alloc _))) ⟩
theorem of_k8(t:ByteArray)(ht:t=⟨#[122,97,100,100]⟩)(w:World):Calls prog 64 #[.string t] w fun e w'=>e=.returned (.tuple #[.agg #[.int .i64 3,.int .i64 (-1),.bool true,.string ⟨#[112]⟩],.bool true])∧Fr [] w w':=by
 have F0:=hid ((Fr.refl [] w).alloc (.cells #[.int .i64 0,.int .i64 0,.bool false,.string ⟨#[]⟩] 98))
 subst ht
 all_goals
  go_enter Tryz.func64,Tryz.ntmps64
  go_wp2
  refine bodyPost_ret (v:=.tuple #[.agg #[.int .i64 3,.int .i64 (-1),.bool true,.string ⟨#[112]⟩],.bool true]) (by simp[results,Tryz.results64,go_sem]) rfl ?_
  exact⟨rfl,((((Fr.refl [] w).alloc _))) ⟩
theorem z70{s:ByteArray}{l:List UInt8}(h:s.data.toList≠l):(s.toList==l)=false:=by
 rw[beq_eq_false_iff_ne]
 intro e
 apply h
 rw[←e]
 exact(Lib.toList_data s).symm
theorem zv3(s:ByteArray)(w:World)(h:∀c:Cm,s.data.toList≠c.bs):Calls prog 64 #[.string s] w fun e w'=>e=.returned (.tuple #[.agg #[.int .i64 0,.int .i64 0,.bool false,.string ⟨#[]⟩],.bool false])∧Fr [] w w':=by
 have q_ping:=z70 (show s.data.toList≠[112,105,110,103] from h .ping)
 have q_get:=z70 (show s.data.toList≠[103,101,116] from h .get)
 have q_set_:=z70 (show s.data.toList≠[115,101,116] from h .set_)
 have q_append_:=z70 (show s.data.toList≠[97,112,112,101,110,100] from h .append_)
 have q_strlen:=z70 (show s.data.toList≠[115,116,114,108,101,110] from h .strlen)
 have q_incrby:=z70 (show s.data.toList≠[105,110,99,114,98,121] from h .incrby)
 have q_getrange:=z70 (show s.data.toList≠[103,101,116,114,97,110,103,101] from h .getrange)
 have q_del:=z70 (show s.data.toList≠[100,101,108] from h .del)
 have q_exists_:=z70 (show s.data.toList≠[101,120,105,115,116,115] from h .exists_)
 have q_type_:=z70 (show s.data.toList≠[116,121,112,101] from h .type_)
 have q_keys_:=z70 (show s.data.toList≠[107,101,121,115] from h .keys_)
 have q_expire:=z70 (show s.data.toList≠[101,120,112,105,114,101] from h .expire)
 have q_ttl:=z70 (show s.data.toList≠[116,116,108] from h .ttl)
 have q_persist:=z70 (show s.data.toList≠[112,101,114,115,105,115,116] from h .persist)
 have q_lpush:=z70 (show s.data.toList≠[108,112,117,115,104] from h .lpush)
 have q_rpush:=z70 (show s.data.toList≠[114,112,117,115,104] from h .rpush)
 have q_lpop:=z70 (show s.data.toList≠[108,112,111,112] from h .lpop)
 have q_rpop:=z70 (show s.data.toList≠[114,112,111,112] from h .rpop)
 have q_lrange:=z70 (show s.data.toList≠[108,114,97,110,103,101] from h .lrange)
 have q_ltrim:=z70 (show s.data.toList≠[108,116,114,105,109] from h .ltrim)
 have q_lrem:=z70 (show s.data.toList≠[108,114,101,109] from h .lrem)
 have q_sadd:=z70 (show s.data.toList≠[115,97,100,100] from h .sadd)
 have q_srem:=z70 (show s.data.toList≠[115,114,101,109] from h .srem)
 have q_sismember:=z70 (show s.data.toList≠[115,105,115,109,101,109,98,101,114] from h .sismember)
 have q_smembers:=z70 (show s.data.toList≠[115,109,101,109,98,101,114,115] from h .smembers)
 have q_sinter:=z70 (show s.data.toList≠[115,105,110,116,101,114] from h .sinter)
 have q_sunion:=z70 (show s.data.toList≠[115,117,110,105,111,110] from h .sunion)
 have q_sdiff:=z70 (show s.data.toList≠[115,100,105,102,102] from h .sdiff)
 have q_hset:=z70 (show s.data.toList≠[104,115,101,116] from h .hset)
 have q_hget:=z70 (show s.data.toList≠[104,103,101,116] from h .hget)
 have q_hdel:=z70 (show s.data.toList≠[104,100,101,108] from h .hdel)
 have q_hgetall:=z70 (show s.data.toList≠[104,103,101,116,97,108,108] from h .hgetall)
 have q_zadd:=z70 (show s.data.toList≠[122,97,100,100] from h .zadd)
 have q_zrem:=z70 (show s.data.toList≠[122,114,101,109] from h .zrem)
 have q_zscore:=z70 (show s.data.toList≠[122,115,99,111,114,101] from h .zscore)
 have q_zrank:=z70 (show s.data.toList≠[122,114,97,110,107] from h .zrank)
 have q_zrange:=z70 (show s.data.toList≠[122,114,97,110,103,101] from h .zrange)
 have q_zrangebyscore:=z70 (show s.data.toList≠[122,114,97,110,103,101,98,121,115,99,111,114,101] from h .zrangebyscore)
 clear h
 go_enter Tryz.func64,Tryz.ntmps64
 go_wp2
 refine bodyPost_ret (v:=.tuple #[.agg #[.int .i64 0,.int .i64 0,.bool false,.string ⟨#[]⟩],.bool false]) (by simp[results,Tryz.results64,go_sem]) rfl ?_
 exact⟨rfl,((((Fr.refl [] w).alloc _))) ⟩
theorem zw3(c:Cm)(w:World):Calls prog 64 #[.string (toB c.bs)] w fun e w'=>e=.returned (.tuple #[shpV c.shp,.bool true])∧Fr [] w w':=by
 cases c
 case ping=>exact of_k0 _ (rfl) w
 case get=>exact zdp _ (.inl rfl) w
 case set_=>exact zif _ (.inl rfl) w
 case append_=>exact zif _ (.inr (.inl rfl)) w
 case strlen=>exact zdp _ (.inr (.inl rfl)) w
 case incrby=>exact zxc _ (.inl rfl) w
 case getrange=>exact zp6 _ (.inl rfl) w
 case del=>exact zpq _ (.inl rfl) w
 case exists_=>exact zpq _ (.inr (.inl rfl)) w
 case type_=>exact zdp _ (.inr (.inr (.inl rfl))) w
 case keys_=>exact zdp _ (.inr (.inr (.inr (.inl rfl)))) w
 case expire=>exact zxc _ (.inr (rfl)) w
 case ttl=>exact zdp _ (.inr (.inr (.inr (.inr (.inl rfl))))) w
 case persist=>exact zdp _ (.inr (.inr (.inr (.inr (.inr (.inl rfl)))))) w
 case lpush=>exact zmh _ (.inl rfl) w
 case rpush=>exact zmh _ (.inr (.inl rfl)) w
 case lpop=>exact zdp _ (.inr (.inr (.inr (.inr (.inr (.inr (.inl rfl))))))) w
 case rpop=>exact zdp _ (.inr (.inr (.inr (.inr (.inr (.inr (.inr (.inl rfl)))))))) w
 case lrange=>exact zp6 _ (.inr (.inl rfl)) w
 case ltrim=>exact zp6 _ (.inr (.inr (.inl rfl))) w
 case lrem=>exact zif _ (.inr (.inr (.inl rfl))) w
 case sadd=>exact zmh _ (.inr (.inr (.inl rfl))) w
 case srem=>exact zmh _ (.inr (.inr (.inr (.inl rfl)))) w
 case sismember=>exact zif _ (.inr (.inr (.inr (.inl rfl)))) w
 case smembers=>exact zdp _ (.inr (.inr (.inr (.inr (.inr (.inr (.inr (.inr (.inl rfl))))))))) w
 case sinter=>exact zpq _ (.inr (.inr (.inl rfl))) w
 case sunion=>exact zpq _ (.inr (.inr (.inr (.inl rfl)))) w
 case sdiff=>exact zpq _ (.inr (.inr (.inr (.inr (rfl))))) w
 case hset=>exact of_k7 _ (rfl) w
 case hget=>exact zif _ (.inr (.inr (.inr (.inr (.inl rfl))))) w
 case hdel=>exact zmh _ (.inr (.inr (.inr (.inr (.inl rfl))))) w
 case hgetall=>exact zdp _ (.inr (.inr (.inr (.inr (.inr (.inr (.inr (.inr (.inr (rfl)))))))))) w
 case zadd=>exact of_k8 _ (rfl) w
 case zrem=>exact zmh _ (.inr (.inr (.inr (.inr (.inr (rfl)))))) w
 case zscore=>exact zif _ (.inr (.inr (.inr (.inr (.inr (.inl rfl)))))) w
 case zrank=>exact zif _ (.inr (.inr (.inr (.inr (.inr (.inr (rfl))))))) w
 case zrange=>exact zp6 _ (.inr (.inr (.inr (.inl rfl)))) w
 case zrangebyscore=>exact zp6 _ (.inr (.inr (.inr (.inr (rfl))))) w
theorem zvd:∀n,n < 3→∀i:Nat,i < 11→(⟨0,none,false,n⟩:Shp).num i=decide ((0:Int)≤Lib.indexByte (zfq n).data.toList ((48+(i:Int)).toNat.toUInt8)):=by decide
theorem zvk{n:Nat}(h:3≤n):zfq n=⟨#[112]⟩:=by
 match n,h with
 | n+3,_=>rfl
theorem num_p{l:Nat}{m:Option Nat}{p:Bool}{n:Nat}(h:3≤n)(i:Nat):(⟨l,m,p,n⟩:Shp).num i=decide (i % 2=1):=by
 match n,h with
 | n+3,_=>rfl
theorem znn(sh:Shp)(i:Nat)(hi:i≤10)(w:World):Calls prog 67 #[shpV sh,.int .i64 i] w fun e w'=>e=.returned (.bool (sh.num i))∧Fr [] w w':=by
 obtain⟨least,most,pairs,nums⟩:=sh
 show Calls prog 67 #[.agg #[.int .i64 (least:Int),.int .i64 (zlt most),.bool pairs,.string (zfq nums)],.int .i64 i] w _
 generalize zlt most=M
 generalize (least:Int)=L
 by_cases hp:3≤nums
 ·rw[zvk hp,num_p hp]
  have F0:=hid ((Fr.refl [] w).alloc (.cells #[.int .i64 L,.int .i64 M,.bool pairs,.string ⟨#[112]⟩] 98))
  clear hp
  go_enter Tryz.func67,Tryz.ntmps67
  go_wp2
  go_ret
  refine⟨?_,F0.out⟩
  clear F0
  have h11:i=0∨i=1∨i=2∨i=3∨i=4∨i=5∨i=6∨i=7∨i=8∨i=9∨i=10:=by omega
  rcases h11 with rfl|rfl|rfl|rfl|rfl|rfl|rfl|rfl|rfl|rfl|rfl <;> rfl
 ·have hn:(⟨least,most,pairs,nums⟩:Shp).num i=(⟨0,none,false,nums⟩:Shp).num i:=rfl
  have hx:=zvd nums (by omega) i (by omega)
  rw[hn]
  have hne:(zfq nums).data.toList≠[112]:=by
   have:nums=0∨nums=1∨nums=2:=by omega
   rcases this with rfl|rfl|rfl <;> decide
  have hpn:=z70 hne
  have F0:=hid ((Fr.refl [] w).alloc (.cells #[.int .i64 L,.int .i64 M,.bool pairs,.string (zfq nums)] 98))
  have IB:=hid (fun W=>Tryz.strings_IndexByte (zfq nums) (48+(i:Int)) W)
  rw[hx]
  clear hx hn hne hp
  generalize zfq nums=nb at *
  have hv:(48+(i:Int)) < 256:=by omega
  generalize Lib.indexByte nb.data.toList ((48+(i:Int)).toNat.toUInt8)=res at *
  go_enter Tryz.func67,Tryz.ntmps67
  go_wp2_with fail
  refine(IB.out _).mono ?_
  rintro e1 w1 ⟨rfl,rfl⟩
  go_wp2
  go_ret
  exact⟨rfl,F0.out⟩
def zr2(w:World)(g:Nat)(l:List UInt8):Prop:=∃cur:Array Value,w.heap[g]? = some (.cells cur 5 (cur.size,cur.size+1))∧l.length≤cur.size∧∀j (hj:j < l.length),cur[j]? = some (.int .u8 (l[j].toNat:Int))
theorem zr2.cell{w:World}{g:Nat}{l:List UInt8}(h:zr2 w g l)(j:Nat)(hj:j < l.length):w.cell? ⟨g,j,none⟩=some (.int .u8 (l[j].toNat:Int)):=by
 obtain⟨cur,h1,h2,h3⟩:=h
 simp[World.cell?,h1,h3 j hj]
theorem zr2.frozen{w:World}{g:Nat}{l:List UInt8}(h:zr2 w g l)(j:Nat)(hj:j < l.length):w.frozen? ⟨g,j,none⟩=false:=by
 obtain⟨cur,h1,h2,h3⟩:=h
 simp[World.frozen?,h1]
 omega
theorem zr2.set_{w:World}{g:Nat}{l:List UInt8}(h:zr2 w g l)(j:Nat)(hj:j < l.length)(u:UInt8):zr2 (w.setCell ⟨g,j,none⟩ (.int .u8 (u.toNat:Int))) g (l.set j u):=by
 obtain⟨cur,h1,h2,h3⟩:=h
 refine⟨cur.setIfInBounds j (.int .u8 (u.toNat:Int)),?_,by simpa using h2,fun i hi=>?_⟩
 ·simp[World.setCell,Array.getElem?_modify,h1]
 ·have hi':i < l.length:=by simpa using hi
  have:=h3 i hi'
  by_cases hji:j=i
  ·subst hji
   rw[Array.getElem?_setIfInBounds_self_of_lt (by omega)]
   simp
  ·rw[Array.getElem?_setIfInBounds_ne hji,this]
   simp[List.getElem_set_ne hji]
theorem zq2(w:World)(s:ByteArray)(hs:s.size≤281474976710656):∃cap wb,(convert 9 119 (.string s)).run prog w=.ok (.slice (some ⟨w.heap.size,0,none⟩) s.size cap) wb∧Fr [] w wb∧zr2 wb w.heap.size s.data.toList:=by
 refine⟨_,_,Lib.run_convert_string_bytes w 9 119 5 s Tryz.underlying9 Tryz.underlying119 Tryz.underlying5,zkm _ _ _,_,Lib.bytesWorld_at_new _ _ _,?_,fun j hj=>?_⟩
 ·simp[Lib.bytesCells]
 ·have hj':j < s.data.size:=by simpa using hj
  have hj2:j < s.size:=hj'
  simp[Lib.bytesCells,Array.getElem?_append,hj',hj2]
theorem zno(w:World)(g cap n:Nat)(l:List UInt8)(h:zr2 w g l)(hn:l.length=n):(convert 119 9 (.slice (some ⟨g,0,none⟩) n cap)).run prog w=.ok (.string (toB l)) w:=by
 subst hn
 exact run_convert_bytes_back (P:=prog) w 119 9 5 ⟨g,0,none⟩ cap l Tryz.underlying119 Tryz.underlying5 Tryz.underlying9 (fun j hj=>by
  have:=h.cell j hj
  have e2:(⟨g,0,none⟩:Addr).add j=⟨g,j,none⟩:=by
   unfold Addr.add
   split
   ·rename_i h0;rw[h0]
   ·simp
  rw[e2,this])
def z7c(l:List UInt8)(k:Nat):List UInt8:=(l.take k).map zdd++l.drop k
theorem zg7(l:List UInt8)(k:Nat):(z7c l k).length=l.length:=by simp[z7c];omega
theorem zmu(l:List UInt8):z7c l 0=l:=by simp[z7c]
theorem zon(l:List UInt8):z7c l l.length=l.map zdd:=by simp[z7c]
theorem zt7(l:List UInt8)(k:Nat)(hk:k < l.length):(z7c l k)[k]? = some l[k]:=by
 unfold z7c
 rw[List.getElem?_append_right (by simp;omega)]
 simp[Nat.min_eq_left (Nat.le_of_lt hk),hk]
theorem zme(l:List UInt8)(k:Nat)(hk:k < l.length):z7c l (k+1)=(z7c l k).set k (zdd l[k]):=by
 unfold z7c
 have e1:=List.drop_eq_getElem_cons hk
 have e2:((l.take k).map zdd).length=k:=by simp;omega
 rw[List.set_append_right _ _ (by rw[e2];exact Nat.le_refl _),e2,Nat.sub_self,e1,List.set_cons_zero,List.take_add_one,List.getElem?_eq_getElem hk]
 simp only[Option.toList_some,List.map_append,List.map_cons,List.map_nil,List.append_assoc,List.cons_append,List.nil_append]
theorem zrd{c:UInt8}(h:65≤c.toNat∧c.toNat≤90):((zdd c).toNat:Int)=c.toNat+32:=by
 unfold zdd
 rw[if_pos h]
 have:(c+32).toNat=(c.toNat+32) % 256:=by rw[UInt8.toNat_add];rfl
 omega
theorem zto{c:UInt8}(h:¬(65≤c.toNat∧c.toNat≤90)):zdd c=c:=if_neg h
theorem z9v(s:ByteArray)(w:World)(hs:s.size≤281474976710656) :
  Calls prog 65 #[.string s] w fun e w'=>e=.returned (.string (toB (zrv s)))∧Fr [] w w':=by
 obtain⟨cap,wb,hconv,fb,hrow⟩:=zq2 w s hs
 have F0:=hid fb
 have R0:=hid hrow
 have LL:s.data.toList.length=s.size:=by simp
 have LN:=hid LL
 have E:=hid (show zrv s=z7c s.data.toList s.data.toList.length from(zon _).symm)
 have HG:=hid (show w.heap.size∉([]:List Nat) from by simp)
 clear fb hrow
 generalize s.data.toList=l at *
 go_enter Tryz.func65,Tryz.ntmps65
 go_wp2
 clear hconv
 go_loopg [10] s.size (fun y i wr=>∃k:Nat,y=s.size - k∧k≤s.size∧i=.int .i64 k∧zr2 wr w.heap.size (z7c l k)∧Fr [] w wr)
 case atStart=>exact⟨0,rfl,Nat.zero_le _,rfl,by rw[zmu];exact R0.out,F0.out⟩
 case round=>
  obtain⟨k,rfl,hk,rfl,hrow,hf⟩:=hrel
  have R:=hid hrow
  have F:=hid hf
  clear hrow hf
  by_cases hlt:k < s.size
  ·have hkl:k < l.length:=by rw[LN.out];exact hlt
   have hkl2:k < (z7c l k).length:=by rw[zg7];exact hkl
   have hc0:=R.out.cell k hkl2
   have hf0:=R.out.frozen k hkl2
   have hat:(z7c l k)[k]=l[k]:=by
    have:=zt7 l k hkl
    rw[List.getElem?_eq_getElem hkl2] at this
    exact Option.some.inj this
   rw[hat] at hc0
   have ST:=hid (zme l k hkl)
   have hc255:(l[k].toNat:Int) < 256:=by have:=l[k].toNat_lt;omega
   have RS:=hid (fun u=>R.out.set_ k hkl2 u)
   have NO:=hid (show zdd l[k]=l[k]→(z7c l k).set k (zdd l[k])=z7c l k from fun e=>by rw[e,←hat,List.set_getElem_self])
   have UP:=hid (@zrd l[k])
   have NU:=hid (@zto l[k])
   clear hat LL
   generalize l[k]=c at *
   generalize hcn:c.toNat=n at *
   by_cases h1:65≤n
   ·by_cases h2:n≤90
    ·have UV:=hid (UP.out ⟨by omega,by omega⟩)
     go_wp2
     go_roundg (s.size - (k+1))
     case measure=>omega
     case rel=>
      refine⟨k+1,rfl,by omega,by go_num,?_,F.out.setCell (p:=⟨w.heap.size,k,none⟩) (.inr (Nat.le_refl _)) _⟩
      rw[ST.out]
      have:=RS.out (zdd c)
      rw[UV.out] at this
      exact this
    ·have NV:=hid (NO.out (NU.out (fun h=>h2 (by omega))))
     go_wp2
     go_roundg (s.size - (k+1))
     case measure=>omega
     case rel=>exact⟨k+1,rfl,by omega,by go_num,by rw[ST.out,NV.out];exact R.out,F.out⟩
   ·have NV:=hid (NO.out (NU.out (fun h=>h1 (by omega))))
    go_wp2
    go_roundg (s.size - (k+1))
    case measure=>omega
    case rel=>exact⟨k+1,rfl,by omega,by go_num,by rw[ST.out,NV.out];exact R.out,F.out⟩
  ·obtain rfl:k=s.size:=by omega
   have hb:=zno wr w.heap.size cap s.size (z7c l s.size) R.out (by rw[zg7,LN.out])
   go_wp2
   go_ret
   exact⟨by rw[E.out,LN.out];rfl,F.out⟩
end Go.Proofs.YtamgdmiopinidaaGreatDoor
