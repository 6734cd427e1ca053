/- Contracts; no condition but each theorem's own. -/
import Derived.Test.YtmkhmejempcimaaGreatDoorSlU18
import Derived.Test.YtmkhmejempcimaaGreatDoorSlU19
set_option linter.unusedVariables false
set_option linter.unusedSimpArgs false
set_option maxHeartbeats 8000000
set_option maxRecDepth 100000
namespace Go.Proofs.YtmkhmejempcimaaGreatDoor
open Lib (hid)
open Go.Proofs.Tryz (prog)
section
variable {α:Type} (key:α→ByteArray)
def getK(l:List α)(f:ByteArray):Option α:=l.find? fun q=>decide (key q=f)
end
def putF(x:Itm)(l:List (ByteArray×ByteArray)):List (ByteArray×ByteArray):=l.foldl (putK Prod.fst) x.pairs
def zb7(x:Itm)(l:List (ByteArray×ByteArray)):Int:=if z0a 4 x≠0 then z0a 4 x else if l.length=0 then 1 else if l.any z5p=true then 2 else 0
def zdq(x:Itm)(l:List (ByteArray×ByteArray)):Int:=if zb7 x l≠0 then zb7 x l else if 24 < (putF x l).length then 2 else 0
def putY(x:Itm)(l:List (ByteArray×ByteArray)):Itm:=if zdq x l=0 then ofP (putF x l) else z2l 0
def putN(x:Itm)(l:List (ByteArray×ByteArray)):Int:=if zdq x l=0 then ((putF x l).length:Int) - x.pairs.length else 0
def znf(x:Itm)(f:ByteArray):Int:=if z0a 4 x≠0 then z0a 4 x else match getK Prod.fst x.pairs f with|some _=>0|none=>5
def getS(x:Itm)(f:ByteArray):ByteArray:=if z0a 4 x≠0 then ⟨#[]⟩ else match getK Prod.fst x.pairs f with|some q=>q.2|none=>⟨#[]⟩
def zor(x:Itm)(l:List ByteArray):List (ByteArray×ByteArray):=x.pairs.filter fun p=>!(l.any fun y=>decide (y=p.1))
def dropY(x:Itm)(l:List ByteArray):Itm:=if z0a 4 x=0 then ofP (zor x l) else z2l 0
def dropN(x:Itm)(l:List ByteArray):Int:=if z0a 4 x=0 then (x.pairs.length:Int) - (zor x l).length else 0
end Go.Proofs.YtmkhmejempcimaaGreatDoor
namespace Go.Proofs.YtmkhmejempcimaaGreatDoor
open Lib (hid)
open Go.Proofs.Tryz (prog)
open Go.RowKit
attribute [local go_sem] z0p
def set4(w:World)(o:Nat)(a b c d:Value):World:=(((w.setCell ⟨o,0,none⟩ a).setCell ⟨o,1,none⟩ b).setCell ⟨o,2,none⟩ c).setCell ⟨o,3,none⟩ d
theorem z3p{S:List Nat}{w w':World}{o:Nat}(h:Fr S w w')(ho:w.heap.size≤o)(x y z u:Value):Fr S w (set4 w' o x y z u):=
 (((h.setCell (p:=⟨o,0,none⟩) (.inr ho) x).setCell (p:=⟨o,1,none⟩) (.inr ho) y).setCell (p:=⟨o,2,none⟩) (.inr ho) z).setCell (p:=⟨o,3,none⟩) (.inr ho) u
attribute [local go_sem] z0p
structure Rel(P:List Value→Ent→Prop)(rs:List (List Value))(l:List Ent):Prop where
 len:rs.length=l.length
 at_:∀(i:Nat) (e:Ent),l[i]? = some e→∃cs:List Value,rs[i]? = some cs∧P cs e
theorem Rel.nil{P:List Value→Ent→Prop}:Rel P [] []:=⟨rfl,fun i e h=>by simp at h⟩
theorem Rel.cons{P:List Value→Ent→Prop}{c:List Value}{e:Ent}{rs:List (List Value)}{l:List Ent}(h:P c e)(hr:Rel P rs l):Rel P (c :: rs) (e :: l):=
 ⟨by simp[hr.len],fun i x hx=>by
  cases i with
  | zero=>simp at hx;subst hx;exact⟨c,rfl,h⟩
  | succ i=>exact hr.at_ i x (by simpa using hx)⟩
theorem Rel.inv{P:List Value→Ent→Prop}{c:List Value}{e:Ent}{rs:List (List Value)}{l:List Ent}(h:Rel P (c :: rs) (e :: l)):P c e∧Rel P rs l:=by
 obtain⟨d,h1,h2⟩:=h.at_ 0 e rfl;simp at h1;subst h1;exact⟨h2,⟨by simpa using h.len,fun i x hx=>h.at_ (i+1) x (by simpa using hx)⟩⟩
theorem Rel.filter{P:List Value→Ent→Prop}(q:List Value→Bool)(r:Ent→Bool)(hq:∀cs e,P cs e→q cs=r e):∀ {rs:List (List Value)} {l:List Ent},Rel P rs l→Rel P (rs.filter q) (l.filter r)
 | [],[],_=>Rel.nil
 | [],e :: l,h=>absurd h.len (by simp)
 | c :: rs,[],h=>absurd h.len (by simp)
 | c :: rs,e :: l,h=>by
  obtain⟨h1,h2⟩:=h.inv;have ih:=Rel.filter q r hq h2;rw[List.filter_cons,List.filter_cons,hq c e h1];split
  ·exact Rel.cons h1 ih
  ·exact ih
theorem Rel.append{P:List Value→Ent→Prop}:∀ {rs:List (List Value)} {l:List Ent} {rs':List (List Value)} {l':List Ent},Rel P rs l→Rel P rs' l'→Rel P (rs++rs') (l++l')
 | [],[],_,_,_,h=>h
 | [],e :: l,_,_,h,_=>absurd h.len (by simp)
 | c :: rs,[],_,_,h,_=>absurd h.len (by simp)
 | c :: rs,e :: l,_,_,h,h'=>Rel.cons h.inv.1 (Rel.append h.inv.2 h')
theorem Rel.take{P:List Value→Ent→Prop}(n:Nat){rs:List (List Value)}{l:List Ent}(h:Rel P rs l):Rel P (rs.take n) (l.take n):=
 ⟨by simp[h.len],fun i e he=>by
  rw[List.getElem?_take] at he;split at he
  ·rename_i hi;obtain⟨cs,h1,h2⟩:=h.at_ i e he;exact⟨cs,by rw[List.getElem?_take_of_lt hi];exact h1,h2⟩
  ·cases he⟩
theorem Rel.drop{P:List Value→Ent→Prop}(n:Nat){rs:List (List Value)}{l:List Ent}(h:Rel P rs l):Rel P (rs.drop n) (l.drop n):=
 ⟨by simp[h.len],fun i e he=>by
  rw[List.getElem?_drop] at he;obtain⟨cs,h1,h2⟩:=h.at_ _ e he;exact⟨cs,by rw[List.getElem?_drop];exact h1,h2⟩⟩
theorem Rel.imp{P Q:List Value→Ent→Prop}{rs:List (List Value)}{l:List Ent}(h:Rel P rs l)(hi:∀cs e,P cs e→Q cs e):Rel Q rs l:=
 ⟨h.len,fun i e he=>by
  obtain⟨cs,h1,h2⟩:=h.at_ i e he;exact⟨cs,h1,hi _ _ h2⟩⟩
theorem Rel.mem{P:List Value→Ent→Prop}{rs:List (List Value)}{l:List Ent}(h:Rel P rs l){c:List Value}(hc:c∈rs):∃e,e∈l∧P c e:=by
 obtain⟨i,hi⟩:=List.getElem?_of_mem hc;have hlt:=(List.getElem?_eq_some_iff.1 hi).1;obtain⟨d,h1,h2⟩:=h.at_ i _ (List.getElem?_eq_getElem (show i < l.length by rw[←h.len];exact hlt));rw[hi] at h1;cases h1;exact⟨_,List.getElem_mem _,h2⟩
theorem zd0{w:World}{base e size n:Nat}{v:Value}{xs:List Value}(h:w.ownsRow base e size v n xs):∀k,k∈z1o v→k < w.heap.size:=fun k hk=>by
 unfold z1o at hk;split at hk
 ·simp at hk;subst hk;exact(h.lt _ rfl).2
 ·cases hk
def zow(cs:List Value):Int:=match cs[6]? with|some (Value.int _ n)=>n|_=>0
theorem znt{w:World}{base:Nat}{cs:List Value}{e:Ent}(h:z1n w base cs e):zow cs=e.til:=by obtain⟨_,_,_,_,_,_,rfl,_⟩:=h;rfl
theorem zb9{w:World}{base:Nat}{cs:List Value}{e:Ent}(h:z1n w base cs e):z9p cs:=by obtain⟨_,_,_,_,_,_,rfl,_⟩:=h;exact⟨_,_,_,_,_,_,_,_,_,_,_,_,_,rfl⟩
def zj5(l:List Ent)(now:Int):List Ent:=l.filter fun e=>!z3n e.til now
def zij(l:List Ent)(base:Nat)(v:Value)(w:World)(r:Ending)(w':World):Prop:=∃v',r=.returned v'∧z1a w' base v' l∧Fr (z1o v) w w'
theorem zh8(x:List Value)(hx:z9p x)(now:Int)(g:Nat)(w:World)(hg:w.cell? ⟨g,0,none⟩=some (.int .i64 now)):
  Calls prog 259 (#[.agg x.toArray]++#[.pointer (some ⟨g,0,none⟩)]) w fun e w'=>e=.returned (.bool (z3n (zow x) now))∧Fr [] w w':=by
 obtain⟨sk,sn,st,A1,n1,d1,A2,n2,d2,A3,n3,d3,su,rfl⟩:=hx;have hgl:=World.block_lt_of_cell? w _ hg;have F1:=hid ((Fr.refl [] w).alloc (.cells #[.string sk,.int .i64 sn,.string st,.slice A1 n1 d1,.slice A2 n2 d2,.slice A3 n3 d3,.int .i64 su] 74));have c1:=F1.out.cell hg (by simp);have GO:=hid (fun W=>zet su now W);rw[show zow [.string sk,.int .i64 sn,.string st,.slice A1 n1 d1,.slice A2 n2 d2,.slice A3 n3 d3,.int .i64 su]=su from rfl];generalize z3n su now=b at *;go_enter Tryz.func259,Tryz.ntmps259;go_wp2_with fail;refine(GO.out _).mono ?_;rintro e w1 ⟨rfl,rfl⟩;go_wp2;go_ret;exact⟨rfl,F1.out⟩
theorem zi2(l:List Ent)(v:Value)(now:Int)(base:Nat)(w:World)(hl:l.length≤1000000)(h:z1a w base v l):
  Calls prog 233 #[v,.int .i64 now] w (zij (zj5 l now) base v w):=by
 have F1:=hid ((Fr.refl [] w).alloc (.cells #[.int .i64 now] 3));have W1:=hid (Whole.new w 3 [.int .i64 now]);obtain⟨rs,h1,h2,h3⟩:=h.fr F1.out;obtain⟨A,c,rfl,-⟩:=z02 h3;have R:=hid (show Rel (z1n (w.alloc (.cells #[.int .i64 now] 3)) base) rs l from⟨h1,h2⟩)
 have hgl:∀k,k∈z1o (.slice A l.length c)→k < w.heap.size:=fun k hk=>by
  obtain⟨rs0,_,_,h30⟩:=h;exact zd0 h30 k hk
 have DF:=hid (zhb 259 #[.pointer (some ⟨w.heap.size,0,none⟩)] (z3z Tryz.func259 (by kernel_rfl) rfl) (fun x=>z3n (zow x) now) rs base (.slice A l.length c) (w.alloc (.cells #[.int .i64 now] 3)) (fun c hc=>by
   obtain⟨e,_,he⟩:=R.out.mem hc;exact zb9 he) (fun W x hx hW=>by
   obtain⟨e,_,he⟩:=R.out.mem hx;exact zh8 x (zb9 he) now w.heap.size W (hW.cell (W1.out.cell 0) (fun hm=>by have:=hgl _ hm;simp at this))) (by omega) (by rw[h1];exact h3))
 have H3:=hid h3;clear h h1 h2 h3;go_enter Tryz.func233,Tryz.ntmps233;go_wp2_with fail;refine DF.out.mono ?_;rintro e w1 ⟨v',rfl,ho,f1,hb⟩;have HO:=hid ho;have F2:=hid f1;clear ho f1 hb;go_wp2;go_ret;have R2:=Rel.filter (fun x=>!z3n (zow x) now) (fun e=>!z3n e.til now) (fun cs e h=>by rw[znt h]) R.out;have R3:=R2.imp (fun cs e h=>h.row H3.out z1d F2.out);refine⟨_,rfl,⟨_,R3.len,R3.at_,?_⟩,F1.out.up.trans F2.out⟩;have:=HO.out;rw[R3.len] at this;exact this
theorem zm8(ss:List (List ByteArray))(u:Value)(A:Option Addr)(c:Nat)(x:Slt)(A1 A2 A3:Option Addr)(c1 c2 c3:Nat)(w:World)(B:Nat)(hx:x.Small)(hs:∀l∈ss,l.length≤281474976710656)(hl:ss.length≤281474976710656)(hu:u.oneCell'=true)(hB:B≤w.heap.size)(h:z2p w B (.slice A ss.length c) ss)(hv:zar w B (z1f x A1 c1 A2 c2 A3 c3) x):
  Calls prog 30 #[.agg #[u,.slice A ss.length c],.agg #[.string x.key,.bool x.cold,.int .i64 x.item.kind,.string x.item.text,.slice A1 x.item.list.length c1,.slice A2 x.item.pairs.length c2,.slice A3 x.item.scores.length c3,.int .i64 x.seg,.int .i64 x.rcd,.int .i64 x.til]] w fun e w'=>e=.returned (.int .i64 (z5d ss x))∧Fr [] w w':=by
 have F1:=hid (((Fr.refl [] w).alloc (.cells #[u,.slice A ss.length c] 25)).alloc (.cells #[.string x.key,.bool x.cold,.int .i64 x.item.kind,.string x.item.text,.slice A1 x.item.list.length c1,.slice A2 x.item.pairs.length c2,.slice A3 x.item.scores.length c3,.int .i64 x.seg,.int .i64 x.rcd,.int .i64 x.til] 50));have W1:=hid ((Whole.new w 25 [u,.slice A ss.length c]).alloc (.cells #[.string x.key,.bool x.cold,.int .i64 x.item.kind,.string x.item.text,.slice A1 x.item.list.length c1,.slice A2 x.item.pairs.length c2,.slice A3 x.item.scores.length c3,.int .i64 x.seg,.int .i64 x.rcd,.int .i64 x.til] 50))
 have V1:=hid (show Whole ((w.alloc (.cells #[u,.slice A ss.length c] 25)).alloc (.cells #[.string x.key,.bool x.cold,.int .i64 x.item.kind,.string x.item.text,.slice A1 x.item.list.length c1,.slice A2 x.item.pairs.length c2,.slice A3 x.item.scores.length c3,.int .i64 x.seg,.int .i64 x.rcd,.int .i64 x.til] 50)) (w.heap.size+1) 50 [.string x.key,.bool x.cold,.int .i64 x.item.kind,.string x.item.text,.slice A1 x.item.list.length c1,.slice A2 x.item.pairs.length c2,.slice A3 x.item.scores.length c3,.int .i64 x.seg,.int .i64 x.rcd,.int .i64 x.til] from by
  have:=Whole.new (w.alloc (.cells #[u,.slice A ss.length c] 25)) 50 [.string x.key,.bool x.cold,.int .i64 x.item.kind,.string x.item.text,.slice A1 x.item.list.length c1,.slice A2 x.item.pairs.length c2,.slice A3 x.item.scores.length c3,.int .i64 x.seg,.int .i64 x.rcd,.int .i64 x.til];simpa using this)
 obtain⟨x0,x1⟩:=two W1.out;obtain⟨y0,y1,y2,y3,y4,y5,y6,y7,y8,y9⟩:=ten V1.out;have LG:=hid (fun W=>z5b x.key W);have TM:=hid (fun W=>zfh x.til W);have IC:=hid (fun W (hW:Fr [] w W)=>z30 x.item _ W B hx.item (Nat.le_trans hB hW.size) (hv.fr hW hB (by simp)).item);have NO:=hid (fun W (hW:Fr [] w W)=>z5l x.item _ W B hx.item (Nat.le_trans hB hW.size) (hv.fr hW hB (by simp)).item);have TH:=hid (fun W (hW:Fr [] w W)=>zj7 ss u A c x.seg x.rcd W B hs hl hu hx.seg hx.rcd (Nat.le_trans hB hW.size) (h.fr hW hB (by simp)));have E:z5d ss x=if 60 < x.key.size then 2 else if x.cold=false∧z08 x.item≠0 then z08 x.item else if x.cold=false∧¬(x.seg=0∧x.rcd=0) then 1 else if x.cold=true∧z0m x.item=false then 1 else if x.cold=true∧z1b ss x.seg x.rcd=false then 5 else if z3h x.til=false then 3 else 0:=rfl
 have hsg:=hx.seg;have hrc:=hx.rcd;have hky:=hx.key;have htl:=hx.til;clear hx hv h;generalize z5d ss x=R at *;by_cases h1:60 < x.key.size
 ·rw[if_pos h1] at E;subst E;have q1:decide (60 < x.key.size)=true:=decide_eq_true h1;rw[q1] at LG;clear h1;go_enter Tryz.func30,Tryz.ntmps30;go_wp2_with fail;refine(LG.out _).mono ?_;rintro e9 w9 ⟨rfl,hw⟩;subst hw;go_wp2;go_ret;exact⟨rfl,F1.out⟩
 rw[if_neg h1] at E;have q1:decide (60 < x.key.size)=false:=decide_eq_false h1;rw[q1] at LG;clear h1;cases hc:x.cold with
 | false=>
  rw[hc] at F1 W1 V1 y1 x0 x1 E;rw[hc] at y0 y2 y3 y4 y5 y6 y7 y8 y9;by_cases h2:z08 x.item=0
  ·rw[if_neg (fun hn=>hn.2 h2)] at E;rw[h2] at IC;by_cases h3:x.seg=0∧x.rcd=0
   ·rw[if_neg (fun hn=>hn.2 h3),if_neg (fun hn=>Bool.noConfusion hn.1),if_neg (fun hn=>Bool.noConfusion hn.1)] at E;obtain⟨e1,e2⟩:=h3;rw[e1,e2] at F1 W1 V1 x0 x1 y0 y1 y2 y3 y4 y5 y6 y7 y8 y9 ⊢;clear TH NO h2;by_cases h4:z3h x.til=true
    ·rw[if_neg (by rw[h4];decide)] at E;subst E;rw[h4] at TM;go_enter Tryz.func30,Tryz.ntmps30;go_wp2_with fail;refine(LG.out _).mono ?_;rintro e9 w9 ⟨rfl,hw⟩;subst hw;go_wp2_with fail;refine(IC.out _ F1.out).mono ?_;rintro e9 w2 ⟨rfl,f⟩;have F2:=hid (F1.out.trans f);have W2:=hid (W1.out.fr f (by simp));have V2:=hid (V1.out.fr f (by simp));clear f x0 x1 y0 y1 y2 y3 y4 y5 y6 y7 y8 y9;obtain⟨x0,x1⟩:=two W2.out;obtain⟨y0,y1,y2,y3,y4,y5,y6,y7,y8,y9⟩:=ten V2.out;go_wp2_with fail;refine(TM.out _).mono ?_;rintro e9 w9 ⟨rfl,hw⟩;subst hw;go_wp2;go_ret;exact⟨rfl,F2.out⟩
    ·have h4':z3h x.til=false:=by simpa using h4
     rw[if_pos h4'] at E;subst E;rw[h4'] at TM;go_enter Tryz.func30,Tryz.ntmps30;go_wp2_with fail;refine(LG.out _).mono ?_;rintro e9 w9 ⟨rfl,hw⟩;subst hw;go_wp2_with fail;refine(IC.out _ F1.out).mono ?_;rintro e9 w2 ⟨rfl,f⟩;have F2:=hid (F1.out.trans f);have W2:=hid (W1.out.fr f (by simp));have V2:=hid (V1.out.fr f (by simp));clear f x0 x1 y0 y1 y2 y3 y4 y5 y6 y7 y8 y9;obtain⟨x0,x1⟩:=two W2.out;obtain⟨y0,y1,y2,y3,y4,y5,y6,y7,y8,y9⟩:=ten V2.out;go_wp2_with fail;refine(TM.out _).mono ?_;rintro e9 w9 ⟨rfl,hw⟩;subst hw;go_wp2;go_ret;exact⟨rfl,F2.out⟩
   ·rw[if_pos ⟨rfl,h3⟩] at E;subst E;clear TH NO TM h2;go_enter Tryz.func30,Tryz.ntmps30;go_wp2_with fail;refine(LG.out _).mono ?_;rintro e9 w9 ⟨rfl,hw⟩;subst hw;go_wp2_with fail;refine(IC.out _ F1.out).mono ?_;rintro e9 w2 ⟨rfl,f⟩;have F2:=hid (F1.out.trans f);have W2:=hid (W1.out.fr f (by simp));have V2:=hid (V1.out.fr f (by simp));clear f x0 x1 y0 y1 y2 y3 y4 y5 y6 y7 y8 y9;obtain⟨x0,x1⟩:=two W2.out;obtain⟨y0,y1,y2,y3,y4,y5,y6,y7,y8,y9⟩:=ten V2.out;go_wp2
    all_goals go_ret
    all_goals exact⟨rfl,F2.out⟩
  ·rw[if_pos ⟨rfl,h2⟩] at E;have q2:(z08 x.item != 0)=true:=by simpa using h2
   subst E;clear TH NO TM h2;generalize z08 x.item=r at *;go_enter Tryz.func30,Tryz.ntmps30;go_wp2_with fail;refine(LG.out _).mono ?_;rintro e9 w9 ⟨rfl,hw⟩;subst hw;go_wp2_with fail;refine(IC.out _ F1.out).mono ?_;rintro e9 w2 ⟨rfl,f⟩;have F2:=hid (F1.out.trans f);have W2:=hid (W1.out.fr f (by simp));have V2:=hid (V1.out.fr f (by simp));clear f x0 x1 y0 y1 y2 y3 y4 y5 y6 y7 y8 y9;obtain⟨x0,x1⟩:=two W2.out;obtain⟨y0,y1,y2,y3,y4,y5,y6,y7,y8,y9⟩:=ten V2.out;go_wp2;go_ret;exact⟨rfl,F2.out⟩
 | true=>
  rw[hc] at F1 W1 V1 y1 x0 x1 E;rw[hc] at y0 y2 y3 y4 y5 y6 y7 y8 y9;rw[if_neg (fun hn=>Bool.noConfusion hn.1),if_neg (fun hn=>Bool.noConfusion hn.1)] at E;cases h2:z0m x.item with
  | false=>
   rw[if_pos ⟨rfl,h2⟩] at E;subst E;rw[h2] at NO;clear TH IC TM h2;go_enter Tryz.func30,Tryz.ntmps30;go_wp2_with fail;refine(LG.out _).mono ?_;rintro e9 w9 ⟨rfl,hw⟩;subst hw;go_wp2_with fail;refine(NO.out _ F1.out).mono ?_;rintro e9 w2 ⟨rfl,f⟩;have F2:=hid (F1.out.trans f);have W2:=hid (W1.out.fr f (by simp));have V2:=hid (V1.out.fr f (by simp));clear f x0 x1 y0 y1 y2 y3 y4 y5 y6 y7 y8 y9;obtain⟨x0,x1⟩:=two W2.out;obtain⟨y0,y1,y2,y3,y4,y5,y6,y7,y8,y9⟩:=ten V2.out;go_wp2;go_ret;exact⟨rfl,F2.out⟩
  | true=>
   rw[if_neg (fun hn=>by rw[h2] at hn;exact Bool.noConfusion hn.2)] at E;rw[h2] at NO;clear h2 IC;cases h3:z1b ss x.seg x.rcd with
   | false=>
    rw[if_pos ⟨rfl,h3⟩] at E;subst E;rw[h3] at TH;clear TM h3;go_enter Tryz.func30,Tryz.ntmps30;go_wp2_with fail;refine(LG.out _).mono ?_;rintro e9 w9 ⟨rfl,hw⟩;subst hw;go_wp2_with fail;refine(NO.out _ F1.out).mono ?_;rintro e9 w2 ⟨rfl,f⟩;have F2:=hid (F1.out.trans f);have W2:=hid (W1.out.fr f (by simp));have V2:=hid (V1.out.fr f (by simp));clear f x0 x1 y0 y1 y2 y3 y4 y5 y6 y7 y8 y9;obtain⟨x0,x1⟩:=two W2.out;obtain⟨y0,y1,y2,y3,y4,y5,y6,y7,y8,y9⟩:=ten V2.out;go_wp2_with fail;refine(TH.out _ F2.out).mono ?_;rintro e9 w3 ⟨rfl,f⟩;have F3:=hid (F2.out.trans f);have W3:=hid (W2.out.fr f (by simp));have V3:=hid (V2.out.fr f (by simp));clear f x0 x1 y0 y1 y2 y3 y4 y5 y6 y7 y8 y9;obtain⟨x0,x1⟩:=two W3.out;obtain⟨y0,y1,y2,y3,y4,y5,y6,y7,y8,y9⟩:=ten V3.out;go_wp2;go_ret;exact⟨rfl,F3.out⟩
   | true=>
    rw[if_neg (fun hn=>by rw[h3] at hn;exact Bool.noConfusion hn.2)] at E;rw[h3] at TH;clear h3;by_cases h4:z3h x.til=true
    ·rw[if_neg (by rw[h4];decide)] at E;subst E;rw[h4] at TM;go_enter Tryz.func30,Tryz.ntmps30;go_wp2_with fail;refine(LG.out _).mono ?_;rintro e9 w9 ⟨rfl,hw⟩;subst hw;go_wp2_with fail;refine(NO.out _ F1.out).mono ?_;rintro e9 w2 ⟨rfl,f⟩;have F2:=hid (F1.out.trans f);have W2:=hid (W1.out.fr f (by simp));have V2:=hid (V1.out.fr f (by simp));clear f x0 x1 y0 y1 y2 y3 y4 y5 y6 y7 y8 y9;obtain⟨x0,x1⟩:=two W2.out;obtain⟨y0,y1,y2,y3,y4,y5,y6,y7,y8,y9⟩:=ten V2.out;go_wp2_with fail;refine(TH.out _ F2.out).mono ?_;rintro e9 w3 ⟨rfl,f⟩;have F3:=hid (F2.out.trans f);have W3:=hid (W2.out.fr f (by simp));have V3:=hid (V2.out.fr f (by simp));clear f x0 x1 y0 y1 y2 y3 y4 y5 y6 y7 y8 y9;obtain⟨x0,x1⟩:=two W3.out;obtain⟨y0,y1,y2,y3,y4,y5,y6,y7,y8,y9⟩:=ten V3.out;go_wp2_with fail;refine(TM.out _).mono ?_;rintro e9 w9 ⟨rfl,hw⟩;subst hw;go_wp2;go_ret;exact⟨rfl,F3.out⟩
    ·have h4':z3h x.til=false:=by simpa using h4
     rw[if_pos h4'] at E;subst E;rw[h4'] at TM;go_enter Tryz.func30,Tryz.ntmps30;go_wp2_with fail;refine(LG.out _).mono ?_;rintro e9 w9 ⟨rfl,hw⟩;subst hw;go_wp2_with fail;refine(NO.out _ F1.out).mono ?_;rintro e9 w2 ⟨rfl,f⟩;have F2:=hid (F1.out.trans f);have W2:=hid (W1.out.fr f (by simp));have V2:=hid (V1.out.fr f (by simp));clear f x0 x1 y0 y1 y2 y3 y4 y5 y6 y7 y8 y9;obtain⟨x0,x1⟩:=two W2.out;obtain⟨y0,y1,y2,y3,y4,y5,y6,y7,y8,y9⟩:=ten V2.out;go_wp2_with fail;refine(TH.out _ F2.out).mono ?_;rintro e9 w3 ⟨rfl,f⟩;have F3:=hid (F2.out.trans f);have W3:=hid (W2.out.fr f (by simp));have V3:=hid (V2.out.fr f (by simp));clear f x0 x1 y0 y1 y2 y3 y4 y5 y6 y7 y8 y9;obtain⟨x0,x1⟩:=two W3.out;obtain⟨y0,y1,y2,y3,y4,y5,y6,y7,y8,y9⟩:=ten V3.out;go_wp2_with fail;refine(TM.out _).mono ?_;rintro e9 w9 ⟨rfl,hw⟩;subst hw;go_wp2;go_ret;exact⟨rfl,F3.out⟩
end Go.Proofs.YtmkhmejempcimaaGreatDoor
