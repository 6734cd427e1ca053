/- Contracts; no condition but each theorem's own. -/
import Derived.Test.YtmkhmejempcimaaGreatDoorSlU26
import Derived.Deep.Cut
set_option linter.unusedVariables false
set_option linter.unusedSimpArgs false
set_option maxHeartbeats 8000000
set_option maxRecDepth 100000
namespace Go.Proofs.YtmkhmejempcimaaGreatDoor
open Lib (hid)
open Go.Proofs.Tryz (prog)
open Go.RowKit
structure Dr(g B0:Nat)(sv:Value)(now:Int)(lv:Value)(l:List ByteArray)(s:List Ent)(wr:World):Prop where
 d:Whole wr g 122 [sv,.int .i64 now,lv]
 e:z1a wr B0 sv s
 l:Sl wr B0 1 lv l.length (z04 l)
 gb:B0≤g
section
variable {g B0:Nat} {sv:Value} {now:Int} {lv:Value} {l:List ByteArray} {s:List Ent} {w w1:World}
theorem Dr.lt(h:Dr g B0 sv now lv l s w):g < w.heap.size:=h.d.lt
theorem Dr.bz(h:Dr g B0 sv now lv l s w):B0≤w.heap.size:=Nat.le_trans h.gb (Nat.le_of_lt h.lt)
theorem Dr.go(h:Dr g B0 sv now lv l s w)(k:Fr [] w w1):Dr g B0 sv now lv l s w1:=
 ⟨h.d.f0 k,h.e.fr k,h.l.fr k h.bz (by simp),h.gb⟩
theorem Dr.three(h:Dr g B0 sv now lv l s w):w.cell? ⟨g,0,none⟩=some sv∧w.cell? ⟨g,1,none⟩=some (.int .i64 now)∧w.cell? ⟨g,2,none⟩=some lv:=⟨h.d.cell 0,h.d.cell 1,h.d.cell 2⟩
theorem Dr.sform(h:Dr g B0 sv now lv l s w):∃A c,sv=.slice A s.length c:=h.e.form
theorem Dr.lform(h:Dr g B0 sv now lv l s w):∃A c,lv=.slice A l.length c:=z3m h.l
theorem Dr.word{A:Option Addr}{c:Nat}(h:Dr g B0 sv now (.slice A l.length c) l s w)(hn:0 < l.length):∃b off,A=some ⟨b,off,none⟩∧b < B0∧l.length≤c∧c≤maxLen∧∀i,i < l.length→w.cell? ⟨b,off+i,none⟩=some (.string (wd l i)):=by
 obtain⟨b,off,e,hb,hc,hm,hat⟩:=h.l.at_ hn;refine⟨b,off,e,hb,hc,hm,fun i hi=>hat i _ ?_⟩;have:=z0x l i l[i] (List.getElem?_eq_getElem hi);rw[this];unfold wd;rw[List.getD_eq_getElem?_getD,List.getElem?_eq_getElem hi];rfl
end
theorem z8b{w:World}{base e size n o T:Nat}{v:Value}{xs cs:List Value}(h:w.ownsRow base e size v n xs)(hw:Whole w o T cs)(hT:T≠e)(a b c d f:Value):(set5 w o a b c d f).ownsRow base e size v n xs:=by
 have hn:=z0g h hw hT;exact z0c (p:=⟨o,4,none⟩) _ (z0c (p:=⟨o,3,none⟩) _ (z0c (p:=⟨o,2,none⟩) _ (z0c (p:=⟨o,1,none⟩) _ (z0c (p:=⟨o,0,none⟩) _ h hn) hn) hn) hn) hn
theorem z8p{w:World}{base o T:Nat}{v:Value}{x:Itm}{cs:List Value}(h:z0l w base v x)(hw:Whole w o T cs)(hT:T≠9∧T≠108∧T≠110)(a b c d f:Value):z0l (set5 w o a b c d f) base v x:=by
 obtain⟨v1,v2,v3,rfl,o1,o2,o3⟩:=h;exact⟨_,_,_,rfl,z8b o1 hw hT.1 _ _ _ _ _,z8b o2 hw hT.2.1 _ _ _ _ _,z8b o3 hw hT.2.2 _ _ _ _ _⟩
theorem z86{w:World}{base e size n o T:Nat}{v:Value}{xs cs:List Value}(h:w.ownsRow base e size v n xs)(hw:Whole w o T cs)(hT:T≠e)(a b c d f g k:Value):(set7 w o a b c d f g k).ownsRow base e size v n xs:=by
 have hn:=z0g h hw hT;exact z0c (p:=⟨o,6,none⟩) _ (z0c (p:=⟨o,5,none⟩) _ (z0c (p:=⟨o,4,none⟩) _ (z0c (p:=⟨o,3,none⟩) _ (z0c (p:=⟨o,2,none⟩) _ (z0c (p:=⟨o,1,none⟩) _ (z0c (p:=⟨o,0,none⟩) _ h hn) hn) hn) hn) hn) hn) hn
def zk3(B0:Nat)(y:Ent)(w0:World)(pb:Value)(wx:World):Prop:=
 ∃gb A1 c1 A2 c2 A3 c3,pb=.pointer (some ⟨gb,0,none⟩)∧w0.heap.size≤gb∧Whole wx gb 74 [.string y.key,.int .i64 y.item.kind,.string y.item.text,.slice A1 y.item.list.length c1,.slice A2 y.item.pairs.length c2,.slice A3 y.item.scores.length c3,.int .i64 y.til]∧z1n wx B0 (z5q y A1 c1 A2 c2 A3 c3) y∧Fr [] w0 wx
section
variable {B0:Nat} {y:Ent} {w0 w1:World} {A1 A2 A3:Option Addr} {c1 c2 c3:Nat}
theorem zk3.new(hC:z1n w1 B0 (z5q y A1 c1 A2 c2 A3 c3) y)(hf:Fr [] w0 w1):zk3 B0 y w0 (.pointer (some ⟨w1.heap.size,0,none⟩)) (w1.alloc (.cells #[.string y.key,.int .i64 y.item.kind,.string y.item.text,.slice A1 y.item.list.length c1,.slice A2 y.item.pairs.length c2,.slice A3 y.item.scores.length c3,.int .i64 y.til] 74)):=
 ⟨_,A1,c1,A2,c2,A3,c3,rfl,hf.size,Whole.new w1 _ _,hC.fr ((Fr.refl [] w1).alloc _),hf.alloc _⟩
theorem zk3.put{gb:Nat}(hC:z1n w1 B0 (z5q y A1 c1 A2 c2 A3 c3) y)(hf:Fr [] w0 w1)(hg:w0.heap.size≤gb)(hv:Whole w1 gb 74 [.string ⟨#[]⟩,.int .i64 0,.string ⟨#[]⟩,.slice none 0 0,.slice none 0 0,.slice none 0 0,.int .i64 0]):zk3 B0 y w0 (.pointer (some ⟨gb,0,none⟩)) (set7 w1 gb (.string y.key) (.int .i64 y.item.kind) (.string y.item.text) (.slice A1 y.item.list.length c1) (.slice A2 y.item.pairs.length c2) (.slice A3 y.item.scores.length c3) (.int .i64 y.til)):=by
 obtain⟨_,_,_,_,_,_,h7,o1,o2,o3⟩:=hC;simp[z5q] at h7;obtain⟨⟨rfl,rfl⟩,⟨rfl,rfl⟩,rfl,rfl⟩:=h7;exact⟨gb,_,_,_,_,_,_,rfl,hg,(((((((hv.set_ 0 _).set_ 1 _).set_ 2 _).set_ 3 _).set_ 4 _).set_ 5 _).set_ 6 _),⟨_,_,_,_,_,_,rfl,z86 o1 hv (by decide) _ _ _ _ _ _ _,z86 o2 hv (by decide) _ _ _ _ _ _ _,z86 o3 hv (by decide) _ _ _ _ _ _ _⟩,z8o hf hg _ _ _ _ _ _ _⟩
def zmt(B0:Nat)(y:Itm)(w0:World)(pb:Value)(wx:World):Prop:=
 ∃gb A1 c1 A2 c2 A3 c3,pb=.pointer (some ⟨gb,0,none⟩)∧w0.heap.size≤gb∧Whole wx gb 46 [.int .i64 y.kind,.string y.text,.slice A1 y.list.length c1,.slice A2 y.pairs.length c2,.slice A3 y.scores.length c3]∧z0l wx B0 (.agg #[.int .i64 y.kind,.string y.text,.slice A1 y.list.length c1,.slice A2 y.pairs.length c2,.slice A3 y.scores.length c3]) y∧Fr [] w0 wx
theorem zmt.new{y:Itm}(hC:z0l w1 B0 (.agg #[.int .i64 y.kind,.string y.text,.slice A1 y.list.length c1,.slice A2 y.pairs.length c2,.slice A3 y.scores.length c3]) y)(hf:Fr [] w0 w1):zmt B0 y w0 (.pointer (some ⟨w1.heap.size,0,none⟩)) (w1.alloc (.cells #[.int .i64 y.kind,.string y.text,.slice A1 y.list.length c1,.slice A2 y.pairs.length c2,.slice A3 y.scores.length c3] 46)):=
 ⟨_,A1,c1,A2,c2,A3,c3,rfl,hf.size,Whole.new w1 _ _,hC.go ((Fr.refl [] w1).alloc _),hf.alloc _⟩
theorem zmt.put{y:Itm}{gb:Nat}(hC:z0l w1 B0 (.agg #[.int .i64 y.kind,.string y.text,.slice A1 y.list.length c1,.slice A2 y.pairs.length c2,.slice A3 y.scores.length c3]) y)(hf:Fr [] w0 w1)(hg:w0.heap.size≤gb)(hv:Whole w1 gb 46 [.int .i64 0,.string ⟨#[]⟩,.slice none 0 0,.slice none 0 0,.slice none 0 0]):zmt B0 y w0 (.pointer (some ⟨gb,0,none⟩)) (set5 w1 gb (.int .i64 y.kind) (.string y.text) (.slice A1 y.list.length c1) (.slice A2 y.pairs.length c2) (.slice A3 y.scores.length c3)):=
 ⟨gb,_,_,_,_,_,_,rfl,hg,zgu hv,z8p hC hv (by decide) _ _ _ _ _,z3o hf hg _ _ _ _ _⟩
end
def ItP(base:Nat)(x:Itm)(w:World)(e:Ending)(w':World):Prop:=∃u,e=.returned u∧z0l w' base u x∧Fr [] w w'
theorem zhg(g B0:Nat)(sv:Value)(now:Int)(lv:Value)(l:List ByteArray)(s:List Ent)(k:ByteArray)(w:World)(hr:rises (ltK Ent.key) s=true)(hl:s.length≤1000)(h:Dr g B0 sv now lv l s w):
  Calls prog 124 #[.pointer (some ⟨g,0,none⟩),.string k] w (ItP B0 (z0q s now k).item w):=by
 have LK:=hid (fun W (hW:Fr [] w W)=>z69 s sv now k W B0 hr (by omega) (h.e.fr hW));have DG:=hid (fun W (hW:Fr [] w W)=>(h.go hW).three);have W0:=hid (Whole.new w 46 [.int .i64 0,.string ⟨#[]⟩,.slice none 0 0,.slice none 0 0,.slice none 0 0]);have F0:=hid ((Fr.refl [] w).alloc (.cells #[.int .i64 0,.string ⟨#[]⟩,.slice none 0 0,.slice none 0 0,.slice none 0 0] 46));have hlt:=h.lt;have hbz:=h.bz;obtain⟨SA,sc,rfl⟩:=h.sform;clear h hr;have F1:=hid (F0.out.alloc (.cells #[.string ⟨#[]⟩,.int .i64 0,.string ⟨#[]⟩,.slice none 0 0,.slice none 0 0,.slice none 0 0,.int .i64 0] 74));have V1:=hid (z73 w (.cells #[.int .i64 0,.string ⟨#[]⟩,.slice none 0 0,.slice none 0 0,.slice none 0 0] 46) 74 [.string ⟨#[]⟩,.int .i64 0,.string ⟨#[]⟩,.slice none 0 0,.slice none 0 0,.slice none 0 0,.int .i64 0]);obtain⟨x0,x1,x2⟩:=DG.out _ F0.out;obtain⟨x3,x4,x5⟩:=DG.out _ F1.out;clear x2 x5;have hn1:¬g=w.heap.size+1:=by omega
 have hn2:¬w.heap.size+1=g:=by omega
 generalize z0q s now k=y at *;generalize zag s now k=bb at *;go_enter Tryz.func124,Tryz.ntmps124;go_upto_region 1 with fail;go_cut [5,6] (fun pb _ wx=>zk3 B0 y (w.alloc (.cells #[.int .i64 0,.string ⟨#[]⟩,.slice none 0 0,.slice none 0 0,.slice none 0 0] 46)) pb wx)
 case first=>
  go_region_held3 (fun wx=>wx.cell? ⟨g,0,none⟩=some (.slice SA s.length sc)∧wx.cell? ⟨g,1,none⟩=some (.int .i64 now)) (go_keep) ((go_at_call 136;first|(refine(LK.out _ F0.out.drew).mono ?_;rintro e1 w1 ⟨A1,c1,A2,c2,A3,c3,rfl,hc,f1⟩;have F2:=hid (z01 f1);have F3:=hid (F0.out.trans F2.out);have HC:=hid hc;obtain⟨z0,z1,z2⟩:=DG.out _ F3.out;clear f1 hc z2)|(refine(LK.out _ F1.out.drew).mono ?_;rintro e1 w1 ⟨A1,c1,A2,c2,A3,c3,rfl,hc,f1⟩;have F2:=hid (zaf (z01 f1));have F3:=hid (F1.out.trans (z01 f1));have HC:=hid hc;have V2:=hid (V1.out.f0 (z01 f1));obtain⟨z0,z1,z2⟩:=DG.out _ F3.out;have y7:=seven V2.out;have z7:=z9m V2.out;clear f1 hc z2)))
  all_goals
   go_wp2;go_meet
   case rel=>first|with_reducible exact zk3.new HC.out F2.out|exact zk3.put HC.out F2.out (by simp) V2.out
 clear x0 x1 x3 x4;obtain⟨gb,A1,c1,A2,c2,A3,c3,rfl,hgb,hw,hc,hf⟩:=hcut;have HI:=hid hc.item;have W2:=hid (W0.out.f0 hf);have F2:=hid (F0.out.trans hf);obtain⟨x0,x1,x2,x3,x4,x5,x6⟩:=seven hw;obtain⟨a0,a1,a2,a3,a4⟩:=five W2.out;obtain⟨b0,b1,b2,b3,b4⟩:=z23 W2.out;clear hw hc hf;go_wp2;refine bodyPost_ret (v:=.agg #[.int .i64 y.item.kind,.string y.item.text,.slice A1 y.item.list.length c1,.slice A2 y.item.pairs.length c2,.slice A3 y.item.scores.length c3]) (by simp[results,Tryz.results124,go_sem,a0,a1,a2,a3,a4]) rfl ?_;exact⟨_,rfl,z8p HI.out W2.out (by decide) _ _ _ _ _,z3o F2.out (Nat.le_refl _) _ _ _ _ _⟩
theorem zgl(n i:Int)(e:Slt)(A1 A2 A3:Option Addr)(c1 c2 c3:Nat)(W:World)(pb:Nat)(hp0:W.cell? ⟨pb,0,none⟩=some (.int .i64 n))(hp1:W.cell? ⟨pb,1,none⟩=some (.int .i64 i)):
  Calls prog 79 #[.agg #[.string e.key,.bool e.cold,.int .i64 e.item.kind,.string e.item.text,.slice A1 e.item.list.length c1,.slice A2 e.item.pairs.length c2,.slice A3 e.item.scores.length c3,.int .i64 e.seg,.int .i64 e.rcd,.int .i64 e.til],.pointer (some ⟨pb,0,none⟩)] W fun r w'=>r=.returned (.bool (e.cold&&(decide (e.seg=n)&&decide (e.rcd=i))))∧Fr [] W w':=by
 have FF:=hid ((Fr.refl [] W).alloc (.cells #[.string e.key,.bool e.cold,.int .i64 e.item.kind,.string e.item.text,.slice A1 e.item.list.length c1,.slice A2 e.item.pairs.length c2,.slice A3 e.item.scores.length c3,.int .i64 e.seg,.int .i64 e.rcd,.int .i64 e.til] 50));have p0:=FF.out.cell hp0 (by simp);have p1:=FF.out.cell hp1 (by simp);cases hc:e.cold with
 | false=>
  rw[hc] at FF;go_enter Tryz.func79,Tryz.ntmps79;go_wp2;go_ret;exact⟨rfl,FF.out⟩
 | true=>
  rw[hc] at FF p0 p1;by_cases h1:e.seg=n
  ·by_cases h2:e.rcd=i
   ·have q1:(e.seg==n)=true:=by simpa using h1
    have q2:(e.rcd==i)=true:=by simpa using h2
    rw[decide_eq_true h1,decide_eq_true h2];clear h1 h2 hc;go_enter Tryz.func79,Tryz.ntmps79;go_wp2;go_ret;exact⟨rfl,FF.out⟩
   ·have q1:(e.seg==n)=true:=by simpa using h1
    have q2:(e.rcd==i)=false:=by simpa using h2
    rw[decide_eq_true h1,decide_eq_false h2];clear h1 h2 hc;go_enter Tryz.func79,Tryz.ntmps79;go_wp2;go_ret;exact⟨rfl,FF.out⟩
  ·have q1:(e.seg==n)=false:=by simpa using h1
   rw[decide_eq_false h1];clear h1 hc;go_enter Tryz.func79,Tryz.ntmps79;go_wp2;go_ret;exact⟨rfl,FF.out⟩
theorem ziz(s:Sto)(base mid kb:Nat)(a b:Value)(n i:Int)(w:World)(hl:s.slots.length≤281474976710656)(h:KpM w base mid kb a b s):
  Calls prog 45 #[.pointer (some ⟨kb,0,none⟩),.agg #[.int .i64 n,.int .i64 i]] w fun e w'=>e=.returned (.bool (z1j s.slots n i))∧Fr [] w w':=by
 have F1:=hid ((Fr.refl [] w).alloc (.cells #[.int .i64 n,.int .i64 i] 48));have P1:=hid (Whole.new w 48 [.int .i64 n,.int .i64 i]);have K1:=hid (h.go F1.out);obtain⟨SA,sc,rfl⟩:=h.sl.form;have CT:=hid (zl8 79 #[.pointer (some ⟨w.heap.size,0,none⟩)] (fun _ _=>rfl) (fun x=>x.cold&&(decide (x.seg=n)&&decide (x.rcd=i))) s.slots SA sc (w.alloc (.cells #[.int .i64 n,.int .i64 i] 48)).heap.size (w.alloc (.cells #[.int .i64 n,.int .i64 i] 48)) (fun W e A1 c1 A2 c2 A3 c3 _ hW=>zgl n i e A1 A2 A3 c1 c2 c3 W w.heap.size (hW.cell (P1.out.cell 0) (by simp)) (hW.cell (P1.out.cell 1) (by simp))) hl (Nat.le_refl _) K1.out.sl.o.v);obtain⟨k0,k1⟩:=two K1.out.k;clear h;go_enter Tryz.func45,Tryz.ntmps45;go_wp2_with fail;refine CT.out.mono ?_;rintro e2 w2 ⟨rfl,f2⟩;go_wp2;go_ret;exact⟨rfl,F1.out.trans f2⟩
theorem zjl{f:Slt→Slt}{l:List Slt}{k:Nat}(hk:k≤l.length):((l.take k).map f++l.drop k).length=l.length:=by simp;omega
theorem zoq{f:Slt→Slt}{l:List Slt}{k:Nat}{x:Slt}(hx:l[k]? = some x):((l.take k).map f++l.drop k)[k]? = some x:=by
 have hk:=(List.getElem?_eq_some_iff.1 hx).1;rw[List.getElem?_append_right (by simp;omega),List.length_map,List.length_take,Nat.min_eq_left (by omega),Nat.sub_self,List.getElem?_drop,Nat.add_zero];exact hx
theorem zld{l:List Slt}{k:Nat}{x:Slt}(hx:l[k]? = some x):l.set k x=l:=by
 refine List.ext_getElem? fun j=>?_;rw[List.getElem?_set];by_cases hij:k=j
 ·subst hij;rw[if_pos rfl,if_pos (List.getElem?_eq_some_iff.1 hx).1,hx]
 ·rw[if_neg hij]
theorem znv{f:Slt→Slt}{l:List Slt}{k:Nat}{x:Slt}(hx:l[k]? = some x):((l.take k).map f++l.drop k).set k (f x)=(l.take (k+1)).map f++l.drop (k+1):=by
 have hk:=(List.getElem?_eq_some_iff.1 hx).1;rw[List.set_append_right _ _ (by simp;omega),List.length_map,List.length_take,Nat.min_eq_left (by omega),Nat.sub_self,List.take_add_one,hx,List.map_append,List.append_assoc];congr 1;rw[List.drop_eq_getElem_cons hk];rfl
def PlcF(g:Nat)(lb:Array Value)(l:List Slt)(ps:Slt→List (Nat×Value))(sg:Nat)(w:World):Prop:=
 ∀(W:World) (o:Nat) (x:Slt),x∈l→x.cold=true→Fr [sg] w W→W.cell? ⟨sg,o+7,none⟩=some (.int .i64 x.seg)→W.cell? ⟨sg,o+8,none⟩=some (.int .i64 x.rcd)→W.frozen? ⟨sg,o+7,none⟩=false→W.frozen? ⟨sg,o+8,none⟩=false →
  Calls prog g (#[.pointer (some ⟨sg,o+7,none⟩)]++lb) W fun e w'=>e=.returned (.tuple #[])∧∃W',Fr [] W W'∧w'=z6x W' sg o (ps x)
def zn1(n i:Int)(x:Slt):List (Nat×Value):=if x.seg=n∧i < x.rcd then [(8,.int .i64 (x.rcd - 1))] else []
def znc(n:Int)(x:Slt):List (Nat×Value):=if n < x.seg then [(7,.int .i64 (x.seg - 1))] else []
theorem zdx(n i:Int)(l:List Slt)(nb ib sg:Nat)(w:World)(hs:∀x∈l,x.Small)(hi:0≤i)(h1:w.cell? ⟨nb,0,none⟩=some (.int .i64 n))(h2:w.cell? ⟨ib,0,none⟩=some (.int .i64 i))(hn1:nb≠sg)(hn2:ib≠sg):
  PlcF 48 #[.pointer (some ⟨nb,0,none⟩),.pointer (some ⟨ib,0,none⟩)] l (zn1 n i) sg w:=by
 intro W o x hx hc hf c7 c8 f7 f8;have k1:W.cell? ⟨nb,0,none⟩=some (.int .i64 n):=hf.cell h1 (by simpa using hn1);have k2:W.cell? ⟨ib,0,none⟩=some (.int .i64 i):=hf.cell h2 (by simpa using hn2);have hr:=(hs x hx).rcd;have hg:=(hs x hx).seg;clear hf h1 h2 hs hx hc;unfold zn1;by_cases q:x.seg=n
 ·have q1:(x.seg==n)=true:=by simpa using q
  by_cases p:i < x.rcd
  ·have p1:decide (x.rcd > i)=true:=decide_eq_true p;have p2:x.rcd > i:=p;rw[if_pos ⟨q,p⟩];clear q p;generalize x.seg=xs at *;generalize x.rcd=xr at *;go_enter Tryz.func48,Tryz.ntmps48;go_wp2;go_quiet (fail);go_wp2
   (first|refine bodyPost_end (v:=.tuple #[]) (by simp[results,Tryz.results48,go_sem]) rfl ?_|refine bodyPost_ret (v:=.tuple #[]) (by simp[results,Tryz.results48,go_sem]) rfl ?_)
   exact⟨rfl,_,by first|exact Fr.refl _ _|exact(Fr.refl [] _).drewN _|exact(Fr.refl [] _).drew,rfl⟩
  ·have p1:decide (x.rcd > i)=false:=decide_eq_false p;have p2:¬x.rcd > i:=p;rw[if_neg (fun h=>p h.2)];clear q p;generalize x.seg=xs at *;generalize x.rcd=xr at *;go_enter Tryz.func48,Tryz.ntmps48;go_wp2;go_quiet (fail);go_wp2
   (first|refine bodyPost_end (v:=.tuple #[]) (by simp[results,Tryz.results48,go_sem]) rfl ?_|refine bodyPost_ret (v:=.tuple #[]) (by simp[results,Tryz.results48,go_sem]) rfl ?_)
   exact⟨rfl,_,by first|exact Fr.refl _ _|exact(Fr.refl [] _).drewN _|exact(Fr.refl [] _).drew,rfl⟩
 ·have q1:(x.seg==n)=false:=by simpa using q
  rw[if_neg (fun h=>q h.1)];generalize x.seg=xs at *;generalize x.rcd=xr at *;go_enter Tryz.func48,Tryz.ntmps48;go_wp2;go_quiet (fail);go_wp2
  (first|refine bodyPost_end (v:=.tuple #[]) (by simp[results,Tryz.results48,go_sem]) rfl ?_|refine bodyPost_ret (v:=.tuple #[]) (by simp[results,Tryz.results48,go_sem]) rfl ?_)
  exact⟨rfl,_,by first|exact Fr.refl _ _|exact(Fr.refl [] _).drewN _|exact(Fr.refl [] _).drew,rfl⟩
theorem zdu(n:Int)(l:List Slt)(nb sg:Nat)(w:World)(hs:∀x∈l,x.Small)(hi:0≤n)(h1:w.cell? ⟨nb,0,none⟩=some (.int .i64 n))(hn1:nb≠sg):
  PlcF 50 #[.pointer (some ⟨nb,0,none⟩)] l (znc n) sg w:=by
 intro W o x hx hc hf c7 c8 f7 f8;have k1:W.cell? ⟨nb,0,none⟩=some (.int .i64 n):=hf.cell h1 (by simpa using hn1);have hg:=(hs x hx).seg;clear hf h1 hs hx hc;unfold znc;by_cases p:n < x.seg
 ·have p1:decide (x.seg > n)=true:=decide_eq_true p;have p2:x.seg > n:=p;rw[if_pos p];clear p;generalize x.seg=xs at *;go_enter Tryz.func50,Tryz.ntmps50;go_wp2;go_quiet (fail);go_wp2
  (first|refine bodyPost_end (v:=.tuple #[]) (by simp[results,Tryz.results50,go_sem]) rfl ?_|refine bodyPost_ret (v:=.tuple #[]) (by simp[results,Tryz.results50,go_sem]) rfl ?_)
  exact⟨rfl,_,by first|exact Fr.refl _ _|exact(Fr.refl [] _).drewN _|exact(Fr.refl [] _).drew,rfl⟩
 ·have p1:decide (x.seg > n)=false:=decide_eq_false p;have p2:¬x.seg > n:=p;rw[if_neg p];generalize x.seg=xs at *;go_enter Tryz.func50,Tryz.ntmps50;go_wp2;go_quiet (fail);go_wp2
  (first|refine bodyPost_end (v:=.tuple #[]) (by simp[results,Tryz.results50,go_sem]) rfl ?_|refine bodyPost_ret (v:=.tuple #[]) (by simp[results,Tryz.results50,go_sem]) rfl ?_)
  exact⟨rfl,_,by first|exact Fr.refl _ _|exact(Fr.refl [] _).drewN _|exact(Fr.refl [] _).drew,rfl⟩
def MvP(base mid kb:Nat)(a b:Value)(t:Sto)(w:World)(e:Ending)(w':World):Prop:=e=.returned (.tuple #[])∧KpM w' base mid kb a b t∧Fr (z1o a) w w'
theorem zcj(g:Nat)(lb:Array Value)(eg:∀args w,(callFunc g args).run prog w=.ok (.enter g args) w)(f:Slt→Slt)(ps:Slt→List (Nat×Value))(s:Sto)(base mid kb:Nat)(a b:Value)(w:World)(hl:s.slots.length≤281474976710656)(h:KpM w base mid kb a b s)
  (hg:∀sg c,a=.slice (some ⟨sg,0,none⟩) s.slots.length c→PlcF g lb s.slots ps sg w) (hhot:∀x∈s.slots,x.cold=false→f x=x) (hp:∀x∈s.slots,∀p∈ps x,p.1 < 10) (hps:∀x∈s.slots,x.cold=true→∀w' cs,z7g w' base mid cs x→z7g w' base mid (z7i cs (ps x)) (f x)):
  Calls prog 47 #[.pointer (some ⟨kb,0,none⟩),.func (Fn.func g) #[] lb] w (MvP base mid kb a b ⟨s.slots.map f,s.segs⟩ w):=by
 obtain⟨SA,sc,rfl⟩:=h.sl.form;have HG:=hid hg;have HH:=hid hhot;have HP:=hid hp;have HS:=hid hps;have K:=hid h;have EG:=hid eg;obtain⟨k0,k1⟩:=two h.k;clear hg hhot hp hps h eg;go_enter Tryz.func47,Tryz.ntmps47;go_wp2;go_loopg [11] s.slots.length (fun r i wr=>∃(k:Nat),r=s.slots.length - k∧k≤s.slots.length∧i=.int .i64 k∧KpM wr base mid kb (.slice SA s.slots.length sc) b ⟨(s.slots.take k).map f++s.slots.drop k,s.segs⟩∧Fr (z1o (.slice SA s.slots.length sc)) w wr)
 case atStart=>exact⟨0,rfl,Nat.zero_le _,rfl,by simpa using K.out,Fr.refl _ _⟩
 case round=>
  obtain⟨k,rfl,hk,rfl,hkm,hf⟩:=hrel;have KM:=hid hkm;have HF:=hid hf;clear hkm hf k0 k1;obtain⟨k0,k1⟩:=two KM.out.k;by_cases hlt:k < s.slots.length
  ·obtain⟨x,hx⟩:∃x,s.slots[k]? = some x:=⟨_,List.getElem?_eq_getElem hlt⟩;have LM:=hid (zjl (f:=f) hk);have XM:=hid (zoq (f:=f) hx);have MS:=hid (znv (f:=f) hx);have SLI:=hid (show z14 wr base mid (.slice SA ((s.slots.take k).map f++s.slots.drop k).length sc) ((s.slots.take k).map f++s.slots.drop k) from by rw[LM.out];exact KM.out.sl);obtain⟨sg,c0,he⟩:=z50 SLI.out.choose_spec.2 (by rw[LM.out];omega);cases he;obtain⟨rs,hrs,hro⟩:=SLI.out;obtain⟨cs,hcs,hcI⟩:=hrs.at_ k x XM.out;obtain⟨⟨X1,x1,X2,x2,X3,x3,rfl,t1,t2,t3⟩,hcb⟩:=hcI;obtain⟨pa,pf,pb,pc,pd⟩:=z4n hro;have a10:=z8u hrs;have cellx:∀j v,j < 10→(z1f x X1 x1 X2 x2 X3 x3)[j]? = some v→wr.cell? ⟨sg,k * 10+j,none⟩=some v:=fun j v hj hv=>pa _ v (by rw[z1w 10 rs k j _ a10 hcs hj];exact hv);have r1:=cellx 1 _ (by decide) rfl;have r7:=cellx 7 _ (by decide) rfl;have r8:=cellx 8 _ (by decide) rfl;have f7:=pf (k * 10+7);have f8:=pf (k * 10+8);have hxm:=List.mem_of_getElem? hx;have HRO:=hid hro;have hks:kb≠sg:=fun e=>z0g hro KM.out.k (by decide) (by rw[e];rfl);have jx2:(0:Int)≤(k:Int):=by omega
   have jx3:(k:Int) < (s.slots.length:Int):=by omega
   have hcap:s.slots.length≤sc:=by rw[←LM.out];exact pc
   unfold maxLen at pd;clear hrs hcs hro t1 t2 t3 hcb pa pf cellx a10 pc;cases hc:x.cold with
   | false=>
    rw[hc] at r1
    have KN:=hid (show KpM wr base mid kb (.slice (some ⟨sg,0,none⟩) s.slots.length sc) b ⟨(s.slots.take (k+1)).map f++s.slots.drop (k+1),s.segs⟩ from by
     rw[←MS.out,HH.out x hxm hc,zld XM.out];exact KM.out)
    clear hx r7 r8 f7 f8 hc hxm;go_wp2;go_roundg (s.slots.length - (k+1))
    case measure=>omega
    case rel=>exact⟨k+1,rfl,by omega,by go_num,KN.out,HF.out⟩
   | true=>
    rw[hc] at r1;have CL:=hid (HG.out sg sc rfl wr (k * 10) x hxm hc HF.out r7 r8 f7 f8)
    have NX:=hid (fun(W:World) (hW:Fr [] wr W)=>(show KpM (z6x W sg (k * 10) (ps x)) base mid kb (.slice (some ⟨sg,0,none⟩) s.slots.length sc) b ⟨(s.slots.take (k+1)).map f++s.slots.drop (k+1),s.segs⟩∧Fr [sg] w (z6x W sg (k * 10) (ps x)) from by
     have fr:=z48 (g:=sg) (o:=k * 10) (ps x) W;have hp:=z14.put (y:=f x) (SLI.out.go hW) XM.out (ps x) (HP.out x hxm) (fun w' cs _ hI=>HS.out x hxm hc w' cs hI);rw[MS.out,zjl (by omega)] at hp;have KW:=KM.out.go hW;exact⟨⟨KW.k.fr fr (by simpa using hks),KW.m,KW.kb,hp,KW.sg.row (z05 HRO.out hW (by simp)) ⟨by decide,by decide⟩ fr,Nat.le_trans KW.mz fr.size⟩,(HF.out.trans (hW.more (by simp))).trans fr⟩))
    clear hx r7 r8 f7 f8 hc hxm;have eg:=EG.out;go_wp2_with fail;refine CL.out.mono ?_;rintro e1 w1 ⟨rfl,W',fW,rfl⟩;have NW:=hid (NX.out W' fW);clear fW;go_wp2;go_roundg (s.slots.length - (k+1))
    case measure=>omega
    case rel=>exact⟨k+1,rfl,by omega,by go_num,NW.out.1,NW.out.2⟩
  ·obtain rfl:k=s.slots.length:=by omega
   go_wp2
   (first|refine bodyPost_end (v:=.tuple #[]) (by simp[results,Tryz.results47,go_sem]) rfl ?_|refine bodyPost_ret (v:=.tuple #[]) (by simp[results,Tryz.results47,go_sem]) rfl ?_)
   have:=KM.out;rw[List.take_length,List.drop_length,List.append_nil] at this;exact⟨rfl,this,HF.out⟩
end Go.Proofs.YtmkhmejempcimaaGreatDoor
