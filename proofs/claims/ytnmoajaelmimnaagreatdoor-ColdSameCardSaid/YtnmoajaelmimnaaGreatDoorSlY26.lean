/- Contracts; no condition but each theorem's own. -/
import Derived.Test.YtnmoajaelmimnaaGreatDoorSlY25
import Derived.Deep.Cut
set_option linter.unusedVariables false
set_option linter.unusedSimpArgs false
set_option maxHeartbeats 8000000
set_option maxRecDepth 100000
namespace Go.Proofs.YtnmoajaelmimnaaGreatDoor
open Go.Proofs.Tryz
section
open Go.RowKit
structure Dr(g B0:Nat)(sv:Value)(now:Int)(lv:Value)(l:YX)(s:List Ent)(wr:World):Prop where
 d:Whole wr g 141 [sv,.int .i64 now,lv]
 e:z2a wr B0 sv s
 l:Sl wr B0 1 lv l.length (z03 l)
 gb:B0≤g
section
variable {g B0:Nat} {sv:Value} {now:Int} {lv:Value} {l:YX} {s:List Ent} {w w1:World}
theorem Dr.lt(h:Dr g B0 sv now lv l s w):g < w.heap.size:=h.d.lt
theorem Dr.bz(h:Dr g B0 sv now lv l s w):B0≤w.heap.size:=Xd h.gb (Kj h.lt)
theorem Dr.go(h:Dr g B0 sv now lv l s w)(k:Fr [] w w1):Dr g B0 sv now lv l s w1:=
 ⟨h.d.f0 k,h.e.fr k,h.l.fr k h.bz (by simp),h.gb⟩
theorem Dr.three(h:Dr g B0 sv now lv l s w):w.cell? ⟨g,0,none⟩=some sv∧w.cell? ⟨g,1,none⟩=some (.int .i64 now)∧w.cell? ⟨g,2,none⟩=some lv:=⟨h.d.cell 0,h.d.cell 1,h.d.cell 2⟩
theorem Dr.sform(h:Dr g B0 sv now lv l s w):∃A c,sv=.slice A s.length c:=h.e.form
theorem Dr.lform(h:Dr g B0 sv now lv l s w):∃A c,lv=.slice A l.length c:=z68 h.l
theorem Dr.word{A:YV}{c:Nat}(h:Dr g B0 sv now (.slice A l.length c) l s w)(hn:0 < l.length):∃b off,A=some ⟨b,off,none⟩∧b < B0∧l.length≤c∧c≤maxLen∧∀i,i < l.length→w.cell? ⟨b,off+i,none⟩=some (.string (wd l i)):=by
 obtain⟨b,off,e,j,f,d,a⟩:=h.l.at_ hn;refine⟨b,off,e,j,f,d,fun i hi=>a i _ ?_⟩;have:=z0x l i l[i] (Xa hi);rw[this];unfold wd;rw[Xs,Xa hi];rfl
end
theorem zex{w:World}{base e size n o T:Nat}{v:Value}{xs cs:List Value}(h:w.ownsRow base e size v n xs)(hw:Whole w o T cs)(hT:T≠e)(a b c d f):(set5 w o a b c d f).ownsRow base e size v n xs:=by
 have g:=z0u h hw hT;exact z0r (p:=⟨o,4,none⟩) _ (z0r (p:=⟨o,3,none⟩) _ (z0r (p:=⟨o,2,none⟩) _ (z0r (p:=⟨o,1,none⟩) _ (z0r (p:=⟨o,0,none⟩) _ h g) g) g) g) g
theorem ze8{w:World}{base o T:Nat}{v:Value}{x:Itm}{cs:List Value}(h:z0k w base v x)(hw:Whole w o T cs)(hT:T≠9∧T≠97∧T≠102)(a b c d f):z0k (set5 w o a b c d f) base v x:=by
 obtain⟨m,l,k,rfl,j,g,e⟩:=h;exact⟨_,_,_,rfl,zex j hw hT.1 _ _ _ _ _,zex g hw hT.2.1 _ _ _ _ _,zex e hw hT.2.2 _ _ _ _ _⟩
theorem zey{w:World}{base e size n o T:Nat}{v:Value}{xs cs:List Value}(h:w.ownsRow base e size v n xs)(hw:Whole w o T cs)(hT:T≠e)(a b c d f g k):(set7 w o a b c d f g k).ownsRow base e size v n xs:=by
 have j:=z0u h hw hT;exact z0r (p:=⟨o,6,none⟩) _ (z0r (p:=⟨o,5,none⟩) _ (z0r (p:=⟨o,4,none⟩) _ (z0r (p:=⟨o,3,none⟩) _ (z0r (p:=⟨o,2,none⟩) _ (z0r (p:=⟨o,1,none⟩) _ (z0r (p:=⟨o,0,none⟩) _ h j) j) j) j) j) j) j
def zh1(B0:Nat)(y:Ent)(w0:World)(pb:Value)(wx:World):Prop:=
 ∃gb A1 c1 A2 c2 A3 c3,pb=.pointer (some ⟨gb,0,none⟩)∧w0.heap.size≤gb∧Whole wx gb 70 [.string y.key,.int .i64 y.item.kind,.string y.item.text,.slice A1 y.item.list.length c1,.slice A2 y.item.pairs.length c2,.slice A3 y.item.scores.length c3,.int .i64 y.til]∧z38 wx B0 (z9p y A1 c1 A2 c2 A3 c3) y∧Fr [] w0 wx
section
variable {B0:Nat} {y:Ent} {w0 w1:World} {A1 A2 A3:YV} {c1 c2 c3:Nat}
theorem zh1.new(hC:z38 w1 B0 (z9p y A1 c1 A2 c2 A3 c3) y)(hf:Fr [] w0 w1):zh1 B0 y w0 (.pointer (some ⟨w1.heap.size,0,none⟩)) (w1.alloc (.cells #[.string y.key,.int .i64 y.item.kind,.string y.item.text,.slice A1 y.item.list.length c1,.slice A2 y.item.pairs.length c2,.slice A3 y.item.scores.length c3,.int .i64 y.til] 70)):=
 ⟨_,A1,c1,A2,c2,A3,c3,rfl,hf.size,Whole.new w1 _ _,hC.fr ((Fr.refl [] w1).alloc _),hf.alloc _⟩
theorem zh1.put{gb:Nat}(hC:z38 w1 B0 (z9p y A1 c1 A2 c2 A3 c3) y)(hf:Fr [] w0 w1)(hg:w0.heap.size≤gb)(hv:Whole w1 gb 70 [.string ⟨#[]⟩,.int .i64 0,.string ⟨#[]⟩,.slice none 0 0,.slice none 0 0,.slice none 0 0,.int .i64 0]):zh1 B0 y w0 (.pointer (some ⟨gb,0,none⟩)) (set7 w1 gb (.string y.key) (.int .i64 y.item.kind) (.string y.item.text) (.slice A1 y.item.list.length c1) (.slice A2 y.item.pairs.length c2) (.slice A3 y.item.scores.length c3) (.int .i64 y.til)):=by
 obtain⟨_,_,_,_,_,_,a,e,b,d⟩:=hC;simp[z9p] at a;obtain⟨⟨rfl,rfl⟩,⟨rfl,rfl⟩,rfl,rfl⟩:=a;exact⟨gb,_,_,_,_,_,_,rfl,hg,(((((((hv.set_ 0 _).set_ 1 _).set_ 2 _).set_ 3 _).set_ 4 _).set_ 5 _).set_ 6 _),⟨_,_,_,_,_,_,rfl,zey e hv (by decide) _ _ _ _ _ _ _,zey b hv (by decide) _ _ _ _ _ _ _,zey d hv (by decide) _ _ _ _ _ _ _⟩,zbz hf hg _ _ _ _ _ _ _⟩
def zfo(B0:Nat)(y:Itm)(w0:World)(pb:Value)(wx:World):Prop:=
 ∃gb A1 c1 A2 c2 A3 c3,pb=.pointer (some ⟨gb,0,none⟩)∧w0.heap.size≤gb∧Whole wx gb 68 [.int .i64 y.kind,.string y.text,.slice A1 y.list.length c1,.slice A2 y.pairs.length c2,.slice A3 y.scores.length c3]∧z0k wx B0 (.agg #[.int .i64 y.kind,.string y.text,.slice A1 y.list.length c1,.slice A2 y.pairs.length c2,.slice A3 y.scores.length c3]) y∧Fr [] w0 wx
theorem zfo.new{y:Itm}(hC:z0k w1 B0 (.agg #[.int .i64 y.kind,.string y.text,.slice A1 y.list.length c1,.slice A2 y.pairs.length c2,.slice A3 y.scores.length c3]) y)(hf:Fr [] w0 w1):zfo B0 y w0 (.pointer (some ⟨w1.heap.size,0,none⟩)) (w1.alloc (.cells #[.int .i64 y.kind,.string y.text,.slice A1 y.list.length c1,.slice A2 y.pairs.length c2,.slice A3 y.scores.length c3] 68)):=
 ⟨_,A1,c1,A2,c2,A3,c3,rfl,hf.size,Whole.new w1 _ _,hC.go ((Fr.refl [] w1).alloc _),hf.alloc _⟩
theorem zfo.put{y:Itm}{gb:Nat}(hC:z0k w1 B0 (.agg #[.int .i64 y.kind,.string y.text,.slice A1 y.list.length c1,.slice A2 y.pairs.length c2,.slice A3 y.scores.length c3]) y)(hf:Fr [] w0 w1)(hg:w0.heap.size≤gb)(hv:Whole w1 gb 68 [.int .i64 0,.string ⟨#[]⟩,.slice none 0 0,.slice none 0 0,.slice none 0 0]):zfo B0 y w0 (.pointer (some ⟨gb,0,none⟩)) (set5 w1 gb (.int .i64 y.kind) (.string y.text) (.slice A1 y.list.length c1) (.slice A2 y.pairs.length c2) (.slice A3 y.scores.length c3)):=
 ⟨gb,_,_,_,_,_,_,rfl,hg,zsa hv,ze8 hC hv (by decide) _ _ _ _ _,z6s hf hg _ _ _ _ _⟩
end
def ItP(base:Nat)(x:Itm)(w:World)(e:Ending)(w':World):Prop:=∃u,e=.returned u∧z0k w' base u x∧Fr [] w w'
theorem zjg(g B0:Nat)(sv)(now:Int)(lv)(l)(s)(k:YY)(w)(hr:rises (ltK Ent.key) s=true)(hl:s.length≤1000)(h:Dr g B0 sv now lv l s w):
  Calls prog 189 #[.pointer (some ⟨g,0,none⟩),.string k] w (ItP B0 (z00 s now k).item w):=by
 have K:=hid (fun W (hW:Fr [] w W)=>z3n s sv now k W B0 hr (by omega) (h.e.fr hW));have m:=hid (fun W (hW:Fr [] w W)=>(h.go hW).three);have M:=hid (Whole.new w 68 yIzl);have f:=hid ((Fr.refl [] w).alloc (.cells yIza 68));have O:=h.lt;have Q:=h.bz;obtain⟨SA,sc,rfl⟩:=h.sform;clear h hr;have x:=hid (f.o.alloc (.cells yEza 70));have R:=hid (z8e w (.cells yIza 68) 70 yEzl);obtain⟨E,L,I⟩:=m.o _ f.o;obtain⟨G,F,J⟩:=m.o _ x.o;clear I J;have P:¬g=w.heap.size+1:=by omega
 have X:¬w.heap.size+1=g:=by omega
 generalize z00 s now k=y at *;generalize z26 s now k=bb at *;go_enter func189,ntmps189;go_upto_region 1 with fail;go_cut [5,6] (fun U _ j=>zh1 B0 y (w.alloc (.cells yIza 68)) U j)
 case first=>
  go_region_held3 (fun j=>j.cell? ⟨g,0,none⟩=some (.slice SA s.length sc)∧j.cell? ⟨g,1,none⟩=some (.int .i64 now)) (go_keep) ((go_at_call 201;first|(refine(K.o _ f.o.drew).mono ?_;rintro e1 N ⟨n,c1,C,c2,B,z,rfl,a,b⟩;have d:=hid (z01 b);have D:=hid (f.o.trans d.o);have t:=hid a;obtain⟨Y,S,p⟩:=m.o _ D.o;clear b a p)|(refine(K.o _ x.o.drew).mono ?_;rintro e1 N ⟨n,c1,C,c2,B,z,rfl,a,b⟩;have d:=hid (z3v (z01 b));have D:=hid (x.o.trans (z01 b));have t:=hid a;have r:=hid (R.o.f0 (z01 b));obtain⟨Y,S,p⟩:=m.o _ D.o;have y7:=seven r.o;have z7:=zbi r.o;clear b a p)))
  all_goals
   go_wp2;go_meet
   case rel=>first|with_reducible exact zh1.new t.o d.o|exact zh1.put t.o d.o (by simp) r.o
 clear E L G F;obtain⟨gb,n,c1,C,c2,B,z,rfl,Z,H,a,u⟩:=hcut;have HI:=hid a.item;have A:=hid (M.o.f0 u);have d:=hid (f.o.trans u);obtain⟨E,L,I,G,F,J,x6⟩:=seven H;obtain⟨a0,a1,a2,T,V⟩:=five A.o;obtain⟨b0,b1,b2,b3,b4⟩:=z11 A.o;clear H a u;go_wp2;refine Xg (v:=.agg (yIa y.item n c1 C c2 B z)) (by simp[results,results189,go_sem,a0,a1,a2,T,V]) rfl ?_;exact⟨_,rfl,ze8 HI.o A.o (by decide) _ _ _ _ _,z6s d.o (Xb _) _ _ _ _ _⟩
theorem zgf(g B0:Nat)(sv)(now:Int)(lv)(l)(s)(k:YY)(w)(hr:rises (ltK Ent.key) s=true)(hl:s.length≤1000)(h:Dr g B0 sv now lv l s w):
  Calls prog 204 #[.pointer (some ⟨g,0,none⟩),.string k] w fun e w'=>e=.returned (.bool (z26 s now k))∧Fr [] w w':=by
 have t:=hid (fun W (hW:Fr [] w W)=>z3n s sv now k W B0 hr (by omega) (h.e.fr hW));have f:=hid (fun W (hW:Fr [] w W)=>(h.go hW).three);have m:=hid ((Fr.refl [] w).alloc (.cells yEza 70));have F:=hid (Whole.new w 70 yEzl);have z:=h.lt;obtain⟨S,Q,rfl⟩:=h.sform;clear h hr;obtain⟨u,R,K⟩:=f.o _ (Fr.refl [] w);obtain⟨D,A,M⟩:=f.o _ m.o;clear K M;have C:¬g=w.heap.size:=by omega
 have J:¬w.heap.size=g:=by omega
 generalize z00 s now k=y at *;generalize z26 s now k=B at *;go_enter func204,ntmps204;go_upto_region 1 with fail;go_cut [5,6] (fun _ H d=>H=.bool B∧Fr [] w d)
 case first=>
  go_region_held3 (fun d=>d.cell? ⟨g,0,none⟩=some (.slice S s.length Q)∧d.cell? ⟨g,1,none⟩=some (.int .i64 now)) (go_keep) ((go_at_call 201;first|(refine(t.o _ (Fr.refl [] w).drew).mono ?_;rintro O x ⟨E,c1,P,c2,N,I,rfl,n,b⟩;have a:=hid (z01 b);obtain⟨L,G,j⟩:=f.o _ a.o;clear b n j)|(refine(t.o _ m.o.drew).mono ?_;rintro O x ⟨E,c1,P,c2,N,I,rfl,n,b⟩;have a:=hid (m.o.trans (z01 b));have p:=hid (F.o.f0 (z01 b));obtain⟨L,G,j⟩:=f.o _ a.o;have T:=seven p.o;have U:=zbi p.o;clear b n j)))
  all_goals
   go_wp2;go_meet
   case rel=>first|with_reducible exact⟨rfl,a.o.alloc _⟩|exact⟨rfl,zbz a.o (Xb _) _ _ _ _ _ _ _⟩
 obtain⟨rfl,r⟩:=hcut;have a:=hid r;clear r u R D A;go_wp2;go_ret;exact⟨rfl,a.o⟩
theorem zhc(g B0:Nat)(sv)(now:Int)(lv)(l:YX)(s)(i:Nat)(n:Int)(w)(hi:i < l.length)(hz:∀t∈l,t.size≤281474976710656)(hn:z5l (wd l i).data.toList=some n)(hv:Vars w)(h:Dr g B0 sv now lv l s w):
  Calls prog 200 #[.pointer (some ⟨g,0,none⟩),.int .i64 i] w fun e w'=>e=.returned (.int .i64 n)∧Fr [] w w':=by
 obtain⟨H,E,rfl⟩:=h.lform;obtain⟨b,off,rfl,G,J,C,a⟩:=h.word (by omega)
 have j:(wd l i)∈l:=by
  unfold wd;rw[Xs,Xa hi];exact Vj hi
 have k:=hid (zac (wd l i) w hv (hz _ j));have u:=a i hi;obtain⟨m,D,B⟩:=h.three;have r:=h.lt;have y:(0:Int)≤(i:Int):=by omega
 have x:(i:Int) < (l.length:Int):=by omega
 have A:=hid hn;unfold maxLen at C;clear h a j hz hn hv;generalize wd l i=t at *;go_enter func200,ntmps200;go_wp2_with fail;refine k.o.mono ?_;rintro I F ⟨p,rfl,-,d,f⟩;obtain rfl:p=n:=d n A.o;have z:=hid f;clear f d m D B u;go_wp2;go_ret;exact⟨rfl,z.o⟩
theorem zrd(n i:Int)(e:Slt)(A1 A2 A3:YV)(c1 c2 c3:Nat)(W:World)(pb:Nat)(hp0:W.cell? ⟨pb,0,none⟩=some (.int .i64 n))(hp1:W.cell? ⟨pb,1,none⟩=some (.int .i64 i)):
  Calls prog 175 #[.agg #[.string e.key,.bool e.cold,.int .i64 e.item.kind,.string e.item.text,.slice A1 e.item.list.length c1,.slice A2 e.item.pairs.length c2,.slice A3 e.item.scores.length c3,.int .i64 e.seg,.int .i64 e.rcd,.int .i64 e.til],.pointer (some ⟨pb,0,none⟩)] W fun r w'=>r=.returned (.bool (e.cold&&(decide (e.seg=n)&&decide (e.rcd=i))))∧Fr [] W w':=by
 have a:=hid ((Fr.refl [] W).alloc (.cells #[.string e.key,.bool e.cold,.int .i64 e.item.kind,.string e.item.text,.slice A1 e.item.list.length c1,.slice A2 e.item.pairs.length c2,.slice A3 e.item.scores.length c3,.int .i64 e.seg,.int .i64 e.rcd,.int .i64 e.til] 124));have f:=a.o.cell hp0 (by simp);have d:=a.o.cell hp1 (by simp);cases hc:e.cold with
 | false=>
  rw[hc] at a;go_enter func175,ntmps175;go_wp2;go_ret;exact⟨rfl,a.o⟩
 | true=>
  rw[hc] at a f d;by_cases h1:e.seg=n
  ·by_cases h2:e.rcd=i
   ·have b:(e.seg==n)=true:=by simpa using h1
    have g:(e.rcd==i)=true:=by simpa using h2
    rw[Xi h1,Xi h2];clear h1 h2 hc;go_enter func175,ntmps175;go_wp2;go_ret;exact⟨rfl,a.o⟩
   ·have b:(e.seg==n)=true:=by simpa using h1
    have g:(e.rcd==i)=false:=by simpa using h2
    rw[Xi h1,Xl h2];clear h1 h2 hc;go_enter func175,ntmps175;go_wp2;go_ret;exact⟨rfl,a.o⟩
  ·have b:(e.seg==n)=false:=by simpa using h1
   rw[Xl h1];clear h1 hc;go_enter func175,ntmps175;go_wp2;go_ret;exact⟨rfl,a.o⟩
theorem zvj(s:Sto)(base mid kb:Nat)(a b)(n i:Int)(w)(hl:s.slots.length≤281474976710656)(h:KpM w base mid kb a b s):
  Calls prog 124 #[.pointer (some ⟨kb,0,none⟩),.agg #[.int .i64 n,.int .i64 i]] w fun e w'=>e=.returned (.bool (z8d s.slots n i))∧Fr [] w w':=by
 have j:=hid ((Fr.refl [] w).alloc (.cells #[.int .i64 n,.int .i64 i] 122));have d:=hid (Whole.new w 122 [.int .i64 n,.int .i64 i]);have g:=hid (h.go j.o);obtain⟨y,t,rfl⟩:=h.sl.form;have z:=hid (zyi 175 #[.pointer (some ⟨w.heap.size,0,none⟩)] (fun _ _=>rfl) (fun x=>x.cold&&(decide (x.seg=n)&&decide (x.rcd=i))) s.slots y t (w.alloc (.cells #[.int .i64 n,.int .i64 i] 122)).heap.size (w.alloc (.cells #[.int .i64 n,.int .i64 i] 122)) (fun W e m c1 r c2 p u _ f=>zrd n i e m r p c1 c2 u W w.heap.size (f.cell (d.o.cell 0) (by simp)) (f.cell (d.o.cell 1) (by simp))) hl (Xb _) g.o.sl.o.v);obtain⟨B,A⟩:=two g.o.k;clear h;go_enter func124,ntmps124;go_wp2_with fail;refine z.o.mono ?_;rintro D C ⟨rfl,l⟩;go_wp2;go_ret;exact⟨rfl,j.o.trans l⟩
theorem zvl{f:Slt→Slt}{l:List Slt}{k:Nat}(hk:k≤l.length):((l.take k).map f++l.drop k).length=l.length:=by simp;omega
theorem q6b{f:Slt→Slt}{l:List Slt}{k:Nat}{x:Slt}(hx:l[k]? = some x):((l.take k).map f++l.drop k)[k]? = some x:=by
 have a:=(Xe.1 hx).1;rw[Xq (by simp;omega),Xx,Xp,Up (by omega),Ux,Yg,Ye];exact hx
theorem q0u{l:List Slt}{k:Nat}{x:Slt}(hx:l[k]? = some x):l.set k x=l:=by
 refine Ji fun j=>?_;rw[Yy];by_cases hij:k=j
 ·subst hij;rw[Xf rfl,Xf (Xe.1 hx).1,hx]
 ·rw[Xc hij]
theorem q3q{f:Slt→Slt}{l:List Slt}{k:Nat}{x:Slt}(hx:l[k]? = some x):((l.take k).map f++l.drop k).set k (f x)=(l.take (k+1)).map f++l.drop (k+1):=by
 have a:=(Xe.1 hx).1;rw[Jx _ _ (by simp;omega),Xx,Xp,Up (by omega),Ux,Xz,hx,Vu,Yi];congr 1;rw[Yu a];rfl
def PlcF(g:Nat)(lb:Array Value)(l:List Slt)(ps:Slt→List (Nat×Value))(sg:Nat)(w:World):Prop:=
 ∀(W:World) (o:Nat) (x:Slt),x∈l→x.cold=true→Fr [sg] w W→W.cell? ⟨sg,o+7,none⟩=some (.int .i64 x.seg)→W.cell? ⟨sg,o+8,none⟩=some (.int .i64 x.rcd)→W.frozen? ⟨sg,o+7,none⟩=false→W.frozen? ⟨sg,o+8,none⟩=false →
  Calls prog g (#[.pointer (some ⟨sg,o+7,none⟩)]++lb) W fun e w'=>e=.returned (.tuple #[])∧∃W',Fr [] W W'∧w'=zcc W' sg o (ps x)
def q3t(n i:Int)(x:Slt):List (Nat×Value):=if x.seg=n∧i < x.rcd then [(8,.int .i64 (x.rcd - 1))] else []
def q3r(n:Int)(x:Slt):List (Nat×Value):=if n < x.seg then [(7,.int .i64 (x.seg - 1))] else []
theorem zmn(n i:Int)(l:List Slt)(nb ib sg:Nat)(w:World)(hs:∀x∈l,x.Small)(hi:0≤i)(h1:w.cell? ⟨nb,0,none⟩=some (.int .i64 n))(h2:w.cell? ⟨ib,0,none⟩=some (.int .i64 i))(hn1:nb≠sg)(hn2:ib≠sg):
  PlcF 127 #[.pointer (some ⟨nb,0,none⟩),.pointer (some ⟨ib,0,none⟩)] l (q3t n i) sg w:=by
 intro W o x d m b z y s u;have r:W.cell? ⟨nb,0,none⟩=some (.int .i64 n):=b.cell h1 (by simpa using hn1);have t:W.cell? ⟨ib,0,none⟩=some (.int .i64 i):=b.cell h2 (by simpa using hn2);have hr:=(hs x d).rcd;have A:=(hs x d).seg;clear b h1 h2 hs d m;unfold q3t;by_cases q:x.seg=n
 ·have j:(x.seg==n)=true:=by simpa using q
  by_cases p:i < x.rcd;have a:=hid trivial
  all_goals
   first
   | (guard_hyp a
      have f:decide (x.rcd > i)=true:=Xi p;have g:x.rcd > i:=p;rw[Xf ⟨q,p⟩])
   | (have f:decide (x.rcd > i)=false:=Xl p
      have g:¬x.rcd > i:=p;rw[Xc (fun h=>p h.2)])
   clear q p;generalize x.seg=k at *;generalize x.rcd=e at *;go_enter func127,ntmps127;go_wp2;go_quiet (fail);go_wp2
   (first|refine bodyPost_end (v:=.tuple #[]) (by simp[results,results127,go_sem]) rfl ?_|refine Xg (v:=.tuple #[]) (by simp[results,results127,go_sem]) rfl ?_)
   exact⟨rfl,_,by first|exact Fr.refl _ _|exact(Fr.refl [] _).drewN _|exact(Fr.refl [] _).drew,rfl⟩
 ·have j:(x.seg==n)=false:=by simpa using q
  rw[Xc (fun h=>q h.1)];generalize x.seg=k at *;generalize x.rcd=e at *;go_enter func127,ntmps127;go_wp2;go_quiet (fail);go_wp2
  (first|refine bodyPost_end (v:=.tuple #[]) (by simp[results,results127,go_sem]) rfl ?_|refine Xg (v:=.tuple #[]) (by simp[results,results127,go_sem]) rfl ?_)
  exact⟨rfl,_,by first|exact Fr.refl _ _|exact(Fr.refl [] _).drewN _|exact(Fr.refl [] _).drew,rfl⟩
theorem zmo(n:Int)(l:List Slt)(nb sg:Nat)(w:World)(hs:∀x∈l,x.Small)(hi:0≤n)(h1:w.cell? ⟨nb,0,none⟩=some (.int .i64 n))(hn1:nb≠sg):
  PlcF 129 #[.pointer (some ⟨nb,0,none⟩)] l (q3r n) sg w:=by
 intro W o x d g b m r j k;have h:W.cell? ⟨nb,0,none⟩=some (.int .i64 n):=b.cell h1 (by simpa using hn1);have t:=(hs x d).seg;clear b h1 hs d g;unfold q3r;by_cases p:n < x.seg;have a:=hid trivial
 all_goals
  first
  | (guard_hyp a
     have e:decide (x.seg > n)=true:=Xi p;have f:x.seg > n:=p;rw[Xf p];clear p)
  | (have e:decide (x.seg > n)=false:=Xl p
     have f:¬x.seg > n:=p;rw[Xc p])
  generalize x.seg=s at *;go_enter func129,ntmps129;go_wp2;go_quiet (fail);go_wp2
  (first|refine bodyPost_end (v:=.tuple #[]) (by simp[results,results129,go_sem]) rfl ?_|refine Xg (v:=.tuple #[]) (by simp[results,results129,go_sem]) rfl ?_)
  exact⟨rfl,_,by first|exact Fr.refl _ _|exact(Fr.refl [] _).drewN _|exact(Fr.refl [] _).drew,rfl⟩
def MvP(base mid kb:Nat)(a b:Value)(t:Sto)(w:World)(e:Ending)(w':World):Prop:=e=.returned (.tuple #[])∧KpM w' base mid kb a b t∧Fr (z1w a) w w'
theorem zkm(g:Nat)(lb:Array Value)(eg:∀args w,(callFunc g args).run prog w=.ok (.enter g args) w)(f:Slt→Slt)(ps:Slt→List (Nat×Value))(s:Sto)(base mid kb:Nat)(a b)(w)(hl:s.slots.length≤281474976710656)(h:KpM w base mid kb a b s)
  (hg:∀sg c,a=.slice (some ⟨sg,0,none⟩) s.slots.length c→PlcF g lb s.slots ps sg w) (hhot:∀x∈s.slots,x.cold=false→f x=x) (hp:∀x∈s.slots,∀p∈ps x,p.1 < 10) (hps:∀x∈s.slots,x.cold=true→∀w' cs,zcw w' base mid cs x→zcw w' base mid (zd6 cs (ps x)) (f x)):
  Calls prog 126 #[.pointer (some ⟨kb,0,none⟩),.func (Fn.func g) #[] lb] w (MvP base mid kb a b ⟨s.slots.map f,s.segs⟩ w):=by
 obtain⟨T,z,rfl⟩:=h.sl.form;have HG:=hid hg;have HH:=hid hhot;have HP:=hid hp;have HS:=hid hps;have K:=hid h;have EG:=hid eg;obtain⟨X,U⟩:=two h.k;clear hg hhot hp hps h eg;go_enter func126,ntmps126;go_wp2;go_loopg [11] s.slots.length (fun r i wr=>∃(k:Nat),r=s.slots.length - k∧k≤s.slots.length∧i=.int .i64 k∧KpM wr base mid kb (.slice T s.slots.length z) b ⟨(s.slots.take k).map f++s.slots.drop k,s.segs⟩∧Fr (z1w (.slice T s.slots.length z)) w wr)
 case atStart=>exact⟨0,rfl,Xt _,rfl,by simpa using K.o,Fr.refl _ _⟩
 case round=>
  obtain⟨k,rfl,hk,rfl,B,hf⟩:=hrel;have A:=hid B;have G:=hid hf;clear B hf X U;obtain⟨X,U⟩:=two A.o.k;by_cases hlt:k < s.slots.length
  ·obtain⟨x,E⟩:∃x,s.slots[k]? = some x:=⟨_,Xa hlt⟩;have M:=hid (zvl (f:=f) hk);have R:=hid (q6b (f:=f) E);have MS:=hid (q3q (f:=f) E);have u:=hid (show z2b wr base mid (.slice T ((s.slots.take k).map f++s.slots.drop k).length z) ((s.slots.take k).map f++s.slots.drop k) from by rw[M.o];exact A.o.sl);obtain⟨sg,c0,he⟩:=z9c u.o.choose_spec.2 (by rw[M.o];omega);cases he;obtain⟨rs,t,n⟩:=u.o;obtain⟨cs,D,J⟩:=t.at_ k x R.o;obtain⟨⟨X1,x1,X2,x2,X3,x3,rfl,t1,t2,t3⟩,H⟩:=J;obtain⟨pa,L,pb,pc,pd⟩:=z8f n;have C:=zfh t;have d:∀j v,j < 10→(z3d x X1 x1 X2 x2 X3 x3)[j]? = some v→wr.cell? ⟨sg,k * 10+j,none⟩=some v:=fun j v hj hv=>pa _ v (by rw[z3q 10 rs k j _ C D hj];exact hv);have V:=d 1 _ (by decide) rfl;have P:=d 7 _ (by decide) rfl;have S:=d 8 _ (by decide) rfl;have O:=L (k * 10+7);have I:=L (k * 10+8);have l:=Xj E;have Q:=hid n;have N:kb≠sg:=fun e=>z0u n A.o.k (by decide) (by rw[e];rfl);have a0:(0:Int)≤(k:Int):=by omega
   have a1:(k:Int) < (s.slots.length:Int):=by omega
   have Y:s.slots.length≤z:=by rw[←M.o];exact pc
   unfold maxLen at pd;clear t D n t1 t2 t3 H pa L d C pc;cases hc:x.cold with
   | false=>
    rw[hc] at V
    have KN:=hid (show KpM wr base mid kb (.slice (some ⟨sg,0,none⟩) s.slots.length z) b ⟨(s.slots.take (k+1)).map f++s.slots.drop (k+1),s.segs⟩ from by
     rw[←MS.o,HH.o x l hc,q0u R.o];exact A.o)
    clear E P S O I hc l;go_wp2;go_roundg (s.slots.length - (k+1))
    case measure=>omega
    case rel=>exact⟨k+1,rfl,by omega,by go_num,KN.o,G.o⟩
   | true=>
    rw[hc] at V;have CL:=hid (HG.o sg z rfl wr (k * 10) x l hc G.o P S O I)
    have NX:=hid (fun(W:World) (hW:Fr [] wr W)=>(show KpM (zcc W sg (k * 10) (ps x)) base mid kb (.slice (some ⟨sg,0,none⟩) s.slots.length z) b ⟨(s.slots.take (k+1)).map f++s.slots.drop (k+1),s.segs⟩∧Fr [sg] w (zcc W sg (k * 10) (ps x)) from by
     have fr:=z87 (g:=sg) (o:=k * 10) (ps x) W;have hp:=z2b.put (y:=f x) (u.o.go hW) R.o (ps x) (HP.o x l) (fun w' cs _ hI=>HS.o x l hc w' cs hI);rw[MS.o,zvl (by omega)] at hp;have F:=A.o.go hW;exact⟨⟨F.k.fr fr (by simpa using N),F.m,F.kb,hp,F.sg.row (z08 Q.o hW (by simp)) ⟨by decide,by decide⟩ fr,Xd F.mz fr.size⟩,(G.o.trans (hW.more (by simp))).trans fr⟩))
    clear E P S O I hc l;have eg:=EG.o;go_wp2_with fail;refine CL.o.mono ?_;rintro e1 w1 ⟨rfl,W',fW,rfl⟩;have Z:=hid (NX.o W' fW);clear fW;go_wp2;go_roundg (s.slots.length - (k+1))
    case measure=>omega
    case rel=>exact⟨k+1,rfl,by omega,by go_num,Z.o.1,Z.o.2⟩
  ·obtain rfl:k=s.slots.length:=by omega
   go_wp2
   (first|refine bodyPost_end (v:=.tuple #[]) (by simp[results,results126,go_sem]) rfl ?_|refine Xg (v:=.tuple #[]) (by simp[results,results126,go_sem]) rfl ?_)
   have:=A.o;rw[Ym,Jc,Ub] at this;exact⟨rfl,this,G.o⟩
theorem z2a.setW{w:World}{base o T i:Nat}{v:Value}{l:List Ent}{cs:List Value}(h:z2a w base v l)(hw:Whole w o T cs)(hT:T≠70∧T≠9∧T≠97∧T≠102)(u):z2a (w.setCell ⟨o,i,none⟩ u) base v l:=by
 obtain⟨k,r,hi,b⟩:=h;refine⟨k,r,fun j e t=>?_,z0r _ b (z0u b hw hT.1)⟩;obtain⟨s,a,m,c1,p,c2,n,x,rfl,g,f,d⟩:=hi j e t;exact⟨_,a,m,c1,p,c2,n,x,rfl,z0r _ g (z0u g hw hT.2.1),z0r _ f (z0u f hw hT.2.2.1),z0r _ d (z0u d hw hT.2.2.2)⟩
theorem Dr.off{g B0:Nat}{sv:Value}{now:Int}{lv:Value}{l:YX}{s:List Ent}{w:World}(h:Dr g B0 sv now lv l s w):g∉z1w sv:=by
 intro a;obtain⟨j,-,-,f⟩:=h.e;have b:=z0u f h.d (by decide);unfold z1w at a;split at a
 ·rename_i k hk;simp at a;subst a;exact b rfl
 ·cases a
theorem Dr.low{g B0:Nat}{sv:Value}{now:Int}{lv:Value}{l:YX}{s:List Ent}{w:World}(h:Dr g B0 sv now lv l s w):∀k,k∈g :: z1w sv→B0≤k∧k < w.heap.size:=fun k hk=>by
 obtain⟨rs,-,-,ho⟩:=h.e;rcases Yh.1 hk with rfl|hk
 ·exact⟨h.gb,h.lt⟩
 ·exact⟨z19 ho hk,zi0 ho k hk⟩
theorem Dr.rowOff{g B0:Nat}{sv:Value}{now:Int}{lv:Value}{l:YX}{s:List Ent}{w:World}(h:Dr g B0 sv now lv l s w){base T size n:Nat}{v:Value}{xs:List Value}(ho:w.ownsRow base T size v n xs)(h1:141≠T)(h2:T≠70):∀k,v.ownBlock=some k→k∉g :: z1w sv:=fun k hk hm=>by
 obtain⟨rs,-,-,ho2⟩:=h.e;rcases Yh.1 hm with rfl|hm
 ·exact z0u ho h.d h1 hk
 ·exact z0w ho ho2 h2 k hk hm
theorem Dr.repO{g B0:Nat}{sv:Value}{now:Int}{lv:Value}{l:YX}{s:List Ent}{w w1:World}(h:Dr g B0 sv now lv l s w){base:Nat}{v:Value}{r:Rep}(hr:z1i w base v r)(k:Fr (g :: z1w sv) w w1):z1i w1 base v r:=by
 obtain⟨b,u,rfl,a⟩:=hr;exact⟨b,u,rfl,z08 a k (h.rowOff a (by decide) (by decide))⟩
theorem z2a.set4W{w:World}{base o:Nat}{v:Value}{l:List Ent}{cs:List Value}(h:z2a w base v l)(hw:Whole w o 27 cs)(a b c d):z2a (set4 w o a b c d) base v l:=
 ((((h.setW (i:=0) hw (by decide) a).setW (i:=1) (hw.set_ 0 a) (by decide) b).setW (i:=2) ((hw.set_ 0 a).set_ 1 b) (by decide) c).setW (i:=3) (((hw.set_ 0 a).set_ 1 b).set_ 2 c) (by decide) d)
theorem Dr.set4W{g B0 o:Nat}{sv:Value}{now:Int}{lv:Value}{l:YX}{s:List Ent}{w:World}{cs:List Value}(h:Dr g B0 sv now lv l s w)(hw:Whole w o 27 cs)(hb:B0≤o)(a b c d):Dr g B0 sv now lv l s (set4 w o a b c d):=by
 have f:g≠o:=h.d.ne_ hw (by decide);have j:Fr [o] w (set4 w o a b c d):=((((Fr.refl [o] w).setCell (p:=⟨o,0,none⟩) (.inl (.head _)) a).setCell (p:=⟨o,1,none⟩) (.inl (.head _)) b).setCell (p:=⟨o,2,none⟩) (.inl (.head _)) c).setCell (p:=⟨o,3,none⟩) (.inl (.head _)) d;exact⟨h.d.fr j (by simpa using f),h.e.set4W hw _ _ _ _,h.l.fr j h.bz (fun k m=>by simp at m;subst m;exact hb),h.gb⟩
def PutD(g B0:Nat)(sv:Value)(now:Int)(lv:Value)(l:YX)(s':List Ent)(c:Int)(w:World)(e:Ending)(w':World):Prop:=
 e=.returned (.int .i64 c)∧Fr (g :: z1w sv) w w'∧∃sv',Whole w' g 141 [sv',.int .i64 now,lv]∧(c=0→Dr g B0 sv' now lv l s' w')
theorem ze2{S:List Nat}{g:Nat}{a b:World}(h:Fr S a b):Fr (g :: S) a b:=h.more (fun k hk=>.inl (.tail _ hk))
theorem zan(g B0:Nat)(sv)(now:Int)(lv)(l)(s)(k:YY)(x:Itm)(xv)(u:Int)(w)(hr:rises (ltK Ent.key) s=true)(hl:s.length≤1000)(hsx:x.Small)(h:Dr g B0 sv now lv l s w)(hx:z0k w B0 xv x):
  Calls prog 193 #[.pointer (some ⟨g,0,none⟩),.string k,xv,.int .i64 u] w (PutD g B0 sv now lv l (zb7 s now k x u) (z2r s now k x u) w):=by
 have RW:=hid (fun W (hW:Fr [] w W)=>zlh s sv now k x xv u B0 W hr hl hsx (h.e.fr hW) (hx.go hW) (Xd h.bz hW.size));obtain⟨S,R,T,M,K,A,rfl⟩:=hx.form;have r:=hid ((Fr.refl [] w).alloc (.cells (yIa x S R T M K A) 68));have U:=hid (Whole.new w 68 (yIl x S R T M K A));have H:=hid h;have m:=h.off;have b:=h.low;have n:w.heap.size∉z1w sv:=fun hm=>by have:=(b _ (.tail _ hm)).2;omega
 have E:=hid m;have B:=hid n;have a5:=h.lt;have C:=h.bz;obtain⟨V,Y,rfl⟩:=h.sform;obtain⟨J,D,Z⟩:=(h.go r.o).three;obtain⟨N,P,Q,F,I⟩:=five U.o;clear Z h hx hr hsx m b n;generalize zb7 s now k x u=s' at *;generalize hpc:z2r s now k x u=c at *;clear hpc;by_cases hc:c=0;have a:=hid trivial
 all_goals
  first
  | (guard_hyp a
     subst hc)
  | (have q1:(c==0)=false:=by simpa using hc
     have HC:=hid hc;clear hc)
  go_enter func193,ntmps193;go_wp2;go_region_held3 (fun G=>G.cell? ⟨g,0,none⟩=some (.slice V s.length Y)∧G.cell? ⟨g,1,none⟩=some (.int .i64 now)∧yIc G w.heap.size x S R T M K A) ((simp only[yIc];go_keep)) ((go_at_call 252;refine(RW.o _ r.o.drew).mono ?_;rintro e1 z ⟨uv,rfl,O,t⟩;have L:=hid (r.o.up.trans t.dr);have W1:=hid (U.o.fr t.dr B.o);have y:=hid ((H.o.go r.o).d.fr t.dr E.o);obtain⟨UA,uc,rfl⟩:=O.form;have HE:=hid O;clear O t J D N P Q F I;obtain⟨N,P,Q,F,I⟩:=five W1.o;have J:=y.o.cell 0;have D:=y.o.cell 1))
  first
  | (guard_hyp a
     have f:=y.o;have X:=f.lt;obtain⟨y0,y1,y2⟩:z.cell? ⟨g,0,none⟩=some (.slice V s.length Y)∧z.cell? ⟨g,1,none⟩=some (.int .i64 now)∧z.cell? ⟨g,2,none⟩=some lv:=⟨f.cell 0,f.cell 1,f.cell 2⟩;have y3:=f.frozen 0)
  | (skip)
  clear J D N P Q F I;go_wp2;go_ret
  first
  | (guard_hyp a
     refine⟨rfl,(ze2 L.o).setCell (p:=⟨g,0,none⟩) (.inl (.head _)) _,_,f.set_ 0 _,fun _=>⟨f.set_ 0 _,HE.o.setW f (by decide) _,?_,H.o.gb⟩⟩;exact H.o.l.fr ((ze2 L.o).setCell (p:=⟨g,0,none⟩) (.inl (.head _)) _) C (fun j hj=>(H.o.low j hj).1))
  | (exact⟨rfl,ze2 L.o,_,y.o,fun h=>absurd h HC.o⟩)
theorem zjh(g B0:Nat)(sv)(now:Int)(lv)(l:YX)(s)(x:Itm)(xv)(w)(hr:rises (ltK Ent.key) s=true)(hl:s.length≤1000)(hn:0 < l.length)(hsx:x.Small)(h:Dr g B0 sv now lv l s w)(hx:z0k w B0 xv x):
  Calls prog 211 #[.pointer (some ⟨g,0,none⟩),xv] w (PutD g B0 sv now lv l (zb7 s now (wd l 0) x (z00 s now (wd l 0)).til) (z2r s now (wd l 0) x (z00 s now (wd l 0)).til) w):=by
 have LK:=hid (fun W (hW:Fr [] w W)=>z3n s sv now (wd l 0) W B0 hr (by omega) (h.e.fr hW));have PT:=hid (fun W (hW:Fr [] w W)=>zan g B0 sv now lv l s (wd l 0) x xv (z00 s now (wd l 0)).til W hr hl hsx (h.go hW) (hx.go hW));obtain⟨u,E,z,t,G,C,rfl⟩:=hx.form;have r:=hid ((Fr.refl [] w).alloc (.cells (yIa x u E z t G C) 68));have W0:=hid (Whole.new w 68 (yIl x u E z t G C));have L:=hid (r.o.alloc (.cells yEza 70));have V1:=hid (z8e w (.cells (yIa x u E z t G C) 68) 70 yEzl);have H:=hid h;have a9:=h.lt;have a8:=h.bz;obtain⟨M,N,rfl⟩:=h.sform;obtain⟨LA,lc,rfl⟩:=h.lform;obtain⟨b,off,rfl,hb,m,n,F⟩:=h.word hn;have p:=F 0 hn;rw[Ye] at p;have f:=hid p;have B:=hid (fun W (hW:Fr [] w W)=>(h.go hW).three);unfold maxLen at n;clear h hx hr hsx F p;have a7:¬g=w.heap.size+1:=by omega
 have ad:¬w.heap.size+1=g:=by omega
 have ab:¬b=w.heap.size+1:=by omega
 have ac:¬w.heap.size+1=b:=by omega
 have aa:(0:Int) < (l.length:Int):=by omega
 generalize zb7 s now (wd l 0) x (z00 s now (wd l 0)).til=s' at *;generalize hpc:z2r s now (wd l 0) x (z00 s now (wd l 0)).til=c at *;clear hpc;generalize z00 s now (wd l 0)=y at *;generalize z26 s now (wd l 0)=bb at *;generalize wd l 0=k at *;obtain⟨O,S,J⟩:=B.o _ r.o;obtain⟨K,d4,d5⟩:=B.o _ L.o;have d6:=r.o.cell f.o (by simp);have d7:=L.o.cell f.o (by simp);go_enter func211,ntmps211;go_upto_region 1 with fail;go_cut [5,6] (fun pb _ d=>zh1 B0 y (w.alloc (.cells (yIa x u E z t G C) 68)) pb d)
 case first=>
  go_region_held3 (fun d=>d.cell? ⟨g,0,none⟩=some (.slice M s.length N)∧d.cell? ⟨g,1,none⟩=some (.int .i64 now)∧d.cell? ⟨g,2,none⟩=some (.slice (some ⟨b,off,none⟩) l.length lc)∧d.cell? ⟨b,off,none⟩=some (.string k)) (go_keep) ((go_at_call 201;first|(refine(LK.o _ r.o.drew).mono ?_;rintro e1 w1 ⟨Y,c1,A2,c2,A3,c3,rfl,m,a⟩;have j:=hid (z01 a);have D:=hid (r.o.trans j.o);have V:=hid m;obtain⟨z0,z1,z2⟩:=B.o _ D.o;have z3:=D.o.cell f.o (by simp);clear a m)|(refine(LK.o _ L.o.drew).mono ?_;rintro e1 w1 ⟨Y,c1,A2,c2,A3,c3,rfl,m,a⟩;have j:=hid (z3v (z01 a));have D:=hid (L.o.trans (z01 a));have V:=hid m;have U:=hid (V1.o.f0 (z01 a));obtain⟨z0,z1,z2⟩:=B.o _ D.o;have z3:=D.o.cell f.o (by simp);have y7:=seven U.o;have z7:=zbi U.o;clear a m)))
  all_goals
   go_wp2;go_meet
   case rel=>first|with_reducible exact zh1.new V.o j.o|exact zh1.put V.o j.o (by simp) U.o
 clear O S J K d4 d5 d6 d7;obtain⟨Q,Y,c1,A2,c2,A3,c3,rfl,I,hw,m,T⟩:=hcut;have j:=hid (r.o.trans T);have Z:=hid hw;have W2:=hid (W0.o.f0 T);have a6:w.heap.size < Q:=by simp at I;omega
 clear T hw m I;obtain⟨O,S,J⟩:=B.o _ j.o;have K:=j.o.cell f.o (by simp);obtain⟨a0,a1,a2,a3,a4⟩:=five W2.o;have a5:=Z.o.cell 6;go_wp2;go_region_held3 (fun d=>d.cell? ⟨g,2,none⟩=some (.slice (some ⟨b,off,none⟩) l.length lc)∧d.cell? ⟨b,off,none⟩=some (.string k)∧d.cell? ⟨Q,6,none⟩=some (.int .i64 y.til)∧yIc d w.heap.size x u E z t G C) ((simp only[yIc];go_keep)) ((go_at_call 193;refine(PT.o _ j.o.drew).mono ?_;rintro e1 w1 ⟨rfl,a,P,A,hd⟩;have N1:w.heap.size∉g :: z1w (.slice M s.length N):=fun n=>(by have:=(H.o.low _ n).2;omega);have X:Q∉g :: z1w (.slice M s.length N):=fun n=>(by have:=(H.o.low _ n).2;omega);have N3:b∉g :: z1w (.slice M s.length N):=fun n=>(by have:=(H.o.low _ n).1;omega);have W3:=hid (W2.o.fr a.dr N1);have R:=hid (Z.o.fr a.dr X);have G3:=hid A;have HD:=hid hd;have FT:=hid (j.o.up.trans a.dr);have e3:=a.dr.cell K N3;clear a A hd N1 X N3 O S J K a0 a1 a2 a3 a4 a5;obtain⟨a0,a1,a2,a3,a4⟩:=five W3.o;have a5:=R.o.cell 6;have J:=G3.o.cell 2));go_wp2;go_ret;exact⟨rfl,FT.o,P,G3.o,HD.o⟩
def ChD(g B0 bb:Nat)(sv:Value)(now:Int)(lv:Value)(l:YX)(p:List Ent×Rep)(w:World)(e:Ending)(w':World):Prop:=
 ∃u,e=.returned u∧z1i w' bb u p.2∧Fr (g :: z1w sv) w w'∧(p.2.kind≠2→∃sv',Dr g B0 sv' now lv l p.1 w')
theorem zm7(g B0 bb:Nat)(sv)(now:Int)(lv)(l:YX)(s)(x:Itm)(xv)(r)(rv)(c:Int)(w)(hr:rises (ltK Ent.key) s=true)(hl:s.length≤1000)(hn:0 < l.length)(hsx:x.Small)(h:Dr g B0 sv now lv l s w)(hx:z0k w B0 xv x)(hrp:z1i w bb rv r):
  Calls prog 196 #[.pointer (some ⟨g,0,none⟩),xv,rv,.int .i64 c] w (ChD g B0 bb sv now lv l (fin s now (wd l 0) x (z00 s now (wd l 0)).til true false c r) w):=by
 have KP:=hid (fun W (hW:Fr [] w W)=>zjh g B0 sv now lv l s x xv W hr hl hn hsx (h.go hW) (hx.go hW));have U:=hid (fun W c (hq:z1i W bb rv r)=>z6l r rv c false bb W hq);have L:=hid hrp;obtain⟨t,p,u,k,j,e,rfl⟩:=hx.form;obtain⟨R,b,rfl⟩:=hrp.form;have f:=hid ((((Fr.refl [] w).alloc (.cells (yIa x t p u k j e) 68)).alloc (.cells (yRa r R b) 27)).alloc (.cells yRza 27));have Z:=hid (Whole.alloc (Whole.alloc (Whole.new w 68 (yIl x t p u k j e)) (.cells (yRa r R b) 27)) (.cells yRza 27));have X:=hid (Whole.alloc (z8e w (.cells (yIa x t p u k j e) 68) 27 (yRl r R b)) (.cells yRza 27))
 have V:=hid (show Whole (((w.alloc (.cells (yIa x t p u k j e) 68)).alloc (.cells (yRa r R b) 27)).alloc (.cells yRza 27)) (w.heap.size+1+1) 27 yRzl from by
  have:=z8e (w.alloc (.cells (yIa x t p u k j e) 68)) (.cells (yRa r R b) 27) 27 yRzl;rwa[show(w.alloc (.cells (yIa x t p u k j e) 68)).heap.size=w.heap.size+1 from by simp] at this)
 have H:=hid h;have a5:=h.lt;have a6:=h.bz
 have T:=hid (show fin s now (wd l 0) x (z00 s now (wd l 0)).til true false c r=if c=0 then (if z2r s now (wd l 0) x (z00 s now (wd l 0)).til=0 then (zb7 s now (wd l 0) x (z00 s now (wd l 0)).til,r) else (s,z8t (z2r s now (wd l 0) x (z00 s now (wd l 0)).til))) else (s,z8t c) from by
  unfold fin;rw[Xf rfl];congr 1;exact Xc (fun h=>by cases h.2))
 clear h hx hrp hr hsx;rw[T.o];clear T;generalize zb7 s now (wd l 0) x (z00 s now (wd l 0)).til=s' at *;generalize hpc:z2r s now (wd l 0) x (z00 s now (wd l 0)).til=D at *;clear hpc;by_cases hc:c=0
 ·subst hc;rw[Xf rfl];by_cases hp:D=0;have a:=hid trivial
  all_goals
   first
   | (guard_hyp a
      subst hp;rw[Xf rfl])
   | (rw[Xc hp]
      have A:=hid (show orV (.agg (yRa r R b)) D false=.agg #[.int .i64 2,.string ⟨#[]⟩,.int .i64 D,.slice none 0 0] from by unfold orV;rw[Xc hp,Xc (fun h=>by cases h.2)]);clear hp)
   go_enter func196,ntmps196;obtain⟨a0,a1,a2,a3,a4⟩:=five Z.o;go_wp2_with fail;refine(KP.o _ f.o).mono ?_;rintro e1 w1 ⟨rfl,z,P,G,Q⟩;have R1:=hid (X.o.fr z (fun N=>by have:=(H.o.low _ N).2;omega));have Q1:=hid (V.o.fr z (fun N=>by have:=(H.o.low _ N).2;omega));have O:=hid (((H.o.go f.o).repO (L.o.fr f.o) z));have S:=hid (f.o.up.trans z);have HD:=hid Q;clear z G Q a0 a1 a2 a3 a4;obtain⟨K,J,M,I⟩:=four R1.o;go_wp2_with fail
   first
   | (guard_hyp a
      have A:=hid (show orV (.agg (yRa r R b)) 0 false=.agg (yRa r R b) from rfl))
   | (skip)
   refine(U.o _ _ O.o).mono ?_;rintro e2 w2 ⟨rfl,d⟩;rw[A.o];have m:=hid (Q1.o.f0 d);have y:=hid d;clear d K J M I;obtain⟨E,B,F,C⟩:=four m.o;obtain⟨z0,z1,z2,z3⟩:=z1p m.o;go_wp2
   first
   | (guard_hyp a
      refine Xg (v:=.agg (yRa r R b)) (by simp[results,results196,go_sem,E,B,F,C]) rfl ?_;have Y:=z2d (S.o.trans y.o.up) (show w.heap.size≤w.heap.size+1+1 by omega) (.int .i64 r.kind) (.string r.text) (.int .i64 r.n) (.slice R r.list.length b);exact⟨_,rfl,H.o.repO L.o Y,Y,fun _=>⟨P,((HD.o (by simp)).go y.o).set4W m.o (by omega) _ _ _ _⟩⟩)
   | (refine Xg (v:=.agg #[.int .i64 2,.string ⟨#[]⟩,.int .i64 D,.slice none 0 0]) (by simp[results,results196,go_sem,E,B,F,C]) rfl ?_
      exact⟨_,rfl,z1i.bare _ _ _ _ _,z2d (S.o.trans y.o.up) (show w.heap.size≤w.heap.size+1+1 by omega) _ _ _ _,fun h=>absurd rfl h⟩)
 ·have q0:(c==0)=false:=by simpa using hc
  have A:=hid (show orV (.agg (yRa r R b)) c false=.agg #[.int .i64 2,.string ⟨#[]⟩,.int .i64 c,.slice none 0 0] from by unfold orV;rw[Xc hc,Xc (fun h=>by cases h.2)]);rw[Xc hc];clear hc;go_enter func196,ntmps196;obtain⟨K,J,M,I⟩:=four X.o;go_wp2_with fail;refine(U.o _ _ (L.o.fr f.o)).mono ?_;rintro e2 w2 ⟨rfl,d⟩;rw[A.o];have m:=hid (V.o.f0 d);have y:=hid (f.o.trans d);clear d K J M I;obtain⟨E,B,F,C⟩:=four m.o;obtain⟨z0,z1,z2,z3⟩:=z1p m.o;go_wp2;refine Xg (v:=.agg #[.int .i64 2,.string ⟨#[]⟩,.int .i64 c,.slice none 0 0]) (by simp[results,results196,go_sem,E,B,F,C]) rfl ?_;exact⟨_,rfl,z1i.bare _ _ _ _ _,(z2d y.o (show w.heap.size≤w.heap.size+1+1 by omega) _ _ _ _).up,fun h=>absurd rfl h⟩
theorem ChD.fin4{g B0:Nat}{sv:Value}{now:Int}{lv:Value}{l:YX}{s:List Ent}{r:Rep}{w w4:World}{A:YV}{k:Nat}{cs:List Value}(hc:z1i w4 (w.heap.size+1) (.agg #[.int .i64 r.kind,.string r.text,.int .i64 r.n,.slice A r.list.length k]) r)(hf:Fr (g :: z1w sv) w w4)(hq:Whole w4 w.heap.size 27 cs)(hB:B0≤w.heap.size)(hd:r.kind≠2→∃sv',Dr g B0 sv' now lv l s w4):
  ChD g B0 B0 sv now lv l (s,r) w (.returned (.agg #[.int .i64 r.kind,.string r.text,.int .i64 r.n,.slice A r.list.length k])) (set4 w4 w.heap.size (.int .i64 r.kind) (.string r.text) (.int .i64 r.n) (.slice A r.list.length k)):=
 ⟨_,rfl,(hc.set4 (Je _) _ _ _ _).base (by omega),z2d hf (Xb _) _ _ _ _,fun h=>(hd h).imp fun _ k=>k.set4W hq hB _ _ _ _⟩
structure Cw(g B0:Nat)(sv:Value)(now:Int)(lv:Value)(l:YX)(s:List Ent)(gx:Nat)(cx:List Value)(x:Itm)(w wr:World):Prop where
 q:Whole wr w.heap.size 27 [.int .i64 0,.string ⟨#[]⟩,.int .i64 0,.slice none 0 0]
 b:Whole wr gx 68 cx
 i:z0k wr B0 (.agg cx.toArray) x
 d:Dr g B0 sv now lv l s wr
 f:Fr [] w wr
 gx:w.heap.size < gx
section
variable {g B0 gx:Nat} {sv:Value} {now:Int} {lv:Value} {l:YX} {s:List Ent} {cx:List Value} {x:Itm} {w wr w1:World}
theorem Cw.go(h:Cw g B0 sv now lv l s gx cx x w wr)(k:Fr [] wr w1):Cw g B0 sv now lv l s gx cx x w w1:=
 ⟨h.q.f0 k,h.b.f0 k,h.i.go k,h.d.go k,h.f.trans k,h.gx⟩
theorem Cw.drew(h:Cw g B0 sv now lv l s gx cx x w wr):Cw g B0 sv now lv l s gx cx x w wr.drew:=h.go (Fr.refl [] _).drew
end
def zbp(r:Rep):Prop:=∀x∈r.list,x.kind≠0
theorem z4w{w:World}{base o:Nat}{v:Value}{r:Rep}(h:z1i w base v r)(hg:zbp r)(hq:Whole w o 27 [.int .i64 0,.string ⟨#[]⟩,.int .i64 0,.slice none 0 0])(a b c d):z1i (set4 w o a b c d) base v r:=by
 obtain⟨z,u,rfl,j⟩:=h;refine⟨z,u,rfl,?_⟩;have n:=hq;have y:Fr [o] w (set4 w o a b c d):=((((Fr.refl [o] w).setCell (p:=⟨o,0,none⟩) (.inl (.head _)) a).setCell (p:=⟨o,1,none⟩) (.inl (.head _)) b).setCell (p:=⟨o,2,none⟩) (.inl (.head _)) c).setCell (p:=⟨o,3,none⟩) (.inl (.head _)) d;by_cases hne:u.ownBlock=some o
 ·refine⟨j.1,?_⟩;rcases j.2 with hz|⟨g,cap,cur,rfl,hb,hgg,hn,e,hs,hx⟩
  ·exact .inl hz
  ·have:g=o:=by simpa[Value.ownBlock] using hne
   subst this;unfold Whole at hq;rw[hq] at hgg;injection hgg with hgg
   injection hgg with hgg
   subst hgg;have t:cap=1:=by simp at hs;omega
   subst t;rcases hl:r.list with _|⟨x,l⟩
   ·rw[hl] at hx hn;have s:Whole (set4 w g a b c d) g 27 [a,b,c,d]:=((n.set_ 0 a).set_ 1 b).set_ 2 c |>.set_ 3 d
    exact .inr ⟨g,1,_,rfl,hb,s,by simp,e,by simp,by simp[z84]⟩
   ·exfalso;rw[hl] at hx;have m:l=[]:=by rw[hl] at hn;simpa using hn
    subst m;have f:=hg x (by rw[hl];exact .head _);simp[z84,rp4] at hx;exact f hx.1.symm
 ·exact z08 j y (fun k f e=>by simp at e;subst e;exact hne f)
theorem zuq(l):zbp (z2h l):=fun x hx=>by
 obtain⟨s,_,rfl⟩:=Yt.1 hx;show(4:Int)≠0;decide
theorem z3h{r:Rep}(h:r.list=[]):zbp r:=fun x hx=>by rw[h] at hx;cases hx
theorem zdg(s)(now:Int)(key)(y)(til:Int)(chg nn:Bool)(e:Int){r:Rep}(h:zbp r):zbp (fin s now key y til chg nn e r).2:=by
 unfold fin;split
 ·split
  ·split
   ·exact h
   ·exact z3h rfl
  ·exact h
 ·split
  ·exact z3h rfl
  ·exact z3h rfl
theorem z0j(c:Cm)(s)(now:Int)(l):zbp (doC c s now l).2:=by
 cases c
 all_goals
  simp only[doC]
  first
   | exact z3h rfl
   | exact zdg _ _ _ _ _ _ _ _ (z3h rfl)
   | exact zdg _ _ _ _ _ _ _ _ (zuq _)
   | (split <;> first|exact z3h rfl|exact zdg _ _ _ _ _ _ _ _ (z3h rfl)|(split <;> first|exact z3h rfl|exact zdg _ _ _ _ _ _ _ _ (z3h rfl)))
theorem zz1(s)(now:Int)(l):zbp (doR s now l).2:=by
 unfold doR;split
 ·exact z3h rfl
 ·split
  ·exact z3h rfl
  ·exact z0j _ _ _ _
theorem zF(w):Hid (Fr [] w (w.alloc (.cells #[.int .i64 0,.string ⟨#[]⟩,.int .i64 0,.slice none 0 0] 27))):=hid ((Fr.refl [] w).alloc _)
theorem zQ(w:World):Hid (Whole (w.alloc (.cells #[.int .i64 0,.string ⟨#[]⟩,.int .i64 0,.slice none 0 0] 27)) w.heap.size 27 [.int .i64 0,.string ⟨#[]⟩,.int .i64 0,.slice none 0 0]):=hid (Whole.new w _ _)
theorem zF2(w)(g:Nat):Hid (Fr [] w ((w.alloc (.cells #[.pointer (some ⟨g,0,none⟩)] 139)).alloc (.cells #[.int .i64 0,.string ⟨#[]⟩,.int .i64 0,.slice none 0 0] 27))):=hid (((Fr.refl [] w).alloc _).alloc _)
theorem zP0(w:World)(g:Nat):Hid (Whole ((w.alloc (.cells #[.pointer (some ⟨g,0,none⟩)] 139)).alloc (.cells #[.int .i64 0,.string ⟨#[]⟩,.int .i64 0,.slice none 0 0] 27)) w.heap.size 139 [.pointer (some ⟨g,0,none⟩)]):=hid (Whole.alloc (Whole.new w 139 [.pointer (some ⟨g,0,none⟩)]) _)
theorem zQ0(w:World)(g:Nat):Hid (Whole ((w.alloc (.cells #[.pointer (some ⟨g,0,none⟩)] 139)).alloc (.cells #[.int .i64 0,.string ⟨#[]⟩,.int .i64 0,.slice none 0 0] 27)) (w.heap.size+1) 27 [.int .i64 0,.string ⟨#[]⟩,.int .i64 0,.slice none 0 0]):=hid (z8e w _ _ _)
theorem zV1(w:World)(g:Nat):Hid (Whole (((w.alloc (.cells #[.pointer (some ⟨g,0,none⟩)] 139)).alloc (.cells #[.int .i64 0,.string ⟨#[]⟩,.int .i64 0,.slice none 0 0] 27)).alloc (.cells #[.string ⟨#[]⟩,.int .i64 0,.string ⟨#[]⟩,.slice none 0 0,.slice none 0 0,.slice none 0 0,.int .i64 0] 70)) (w.heap.size+1+1) 70 [.string ⟨#[]⟩,.int .i64 0,.string ⟨#[]⟩,.slice none 0 0,.slice none 0 0,.slice none 0 0,.int .i64 0]):=hid (by
 have:=Whole.new ((w.alloc (.cells #[.pointer (some ⟨g,0,none⟩)] 139)).alloc (.cells yRza 27)) 70 yEzl;rwa[show((w.alloc (.cells #[.pointer (some ⟨g,0,none⟩)] 139)).alloc (.cells yRza 27)).heap.size=w.heap.size+1+1 from by simp] at this)
section
variable {g B0:Nat} {sv:Value} {now:Int} {lv:Value} {l:YX} {s:List Ent} {w w1:World}
theorem zDI(hr:rises (ltK Ent.key) s=true)(hs:s.length≤16)(h:Dr g B0 sv now lv l s w):Hid (∀(W),Fr [] w W→Calls prog 189 #[.pointer (some ⟨g,0,none⟩),.string (wd l 0)] W (ItP B0 (z00 s now (wd l 0)).item W)):=
 hid (fun W hW=>zjg g B0 sv now lv l s (wd l 0) W hr (by omega) (h.go hW))
theorem zC1{x:Itm}{X1 X2 X3:YV}{x1 x2 x3:Nat}(Q1:Hid (Whole w1 w.heap.size 27 [.int .i64 0,.string ⟨#[]⟩,.int .i64 0,.slice none 0 0]))(HI:Hid (z0k w1 B0 (.agg #[.int .i64 x.kind,.string x.text,.slice X1 x.list.length x1,.slice X2 x.pairs.length x2,.slice X3 x.scores.length x3]) x))(H:Hid (Dr g B0 sv now lv l s w))(F1:Hid (Fr [] w w1)):
  Hid (Cw g B0 sv now lv l s w1.heap.size [.int .i64 x.kind,.string x.text,.slice X1 x.list.length x1,.slice X2 x.pairs.length x2,.slice X3 x.scores.length x3] x w (w1.alloc (.cells #[.int .i64 x.kind,.string x.text,.slice X1 x.list.length x1,.slice X2 x.pairs.length x2,.slice X3 x.scores.length x3] 68))):=
 hid ⟨Q1.o.alloc _,Whole.new w1 _ _,HI.o.go ((Fr.refl [] w1).alloc _),(H.o.go F1.o).go ((Fr.refl [] w1).alloc _),F1.o.alloc _,(by have:=Q1.o.lt;exact this)⟩
end
theorem zCH(g B0:Nat)(sv)(now:Int)(lv)(l:YX)(s)(w:World)(Y:Itm)(R)(C:Int)(ok:z22 s)(hn:0 < l.length)(SY:Hid Y.Small):Hid (∀(W) (yv rv),Dr g B0 sv now lv l s W→z0k W B0 yv Y→z1i W (w.heap.size+1) rv R→Calls prog 196 #[.pointer (some ⟨g,0,none⟩),yv,rv,.int .i64 C] W (ChD g B0 (w.heap.size+1) sv now lv l (fin s now (wd l 0) Y (z00 s now (wd l 0)).til true false C R) W)):=
 hid (fun W yv rv hd hy hr=>zm7 g B0 (w.heap.size+1) sv now lv l s Y yv R rv C W ok.rise (by have:=ok.le;omega) hn SY.o hd hy hr)
theorem zV2(w1:World)(o:Obj):Hid (Whole ((w1.alloc o).alloc (.cells #[.int .i64 0,.string ⟨#[]⟩,.slice none 0 0,.slice none 0 0,.slice none 0 0] 68)) (w1.heap.size+1) 68 [.int .i64 0,.string ⟨#[]⟩,.slice none 0 0,.slice none 0 0,.slice none 0 0]):=hid (z8e w1 o _ _)
theorem zC2{g B0 gx:Nat}{sv:Value}{now:Int}{lv:Value}{l:YX}{s:List Ent}{cx:List Value}{x:Itm}{w wr:World}(C1:Hid (Cw g B0 sv now lv l s gx cx x w wr)):Hid (Cw g B0 sv now lv l s gx cx x w (wr.alloc (.cells #[.int .i64 0,.string ⟨#[]⟩,.slice none 0 0,.slice none 0 0,.slice none 0 0] 68))):=hid (C1.o.go ((Fr.refl [] _).alloc _))
theorem zF3{w0 w:World}(F0:Hid (Fr [] w0 w)):Hid (Fr [] w0 (w.alloc (.cells #[.string ⟨#[]⟩,.int .i64 0,.string ⟨#[]⟩,.slice none 0 0,.slice none 0 0,.slice none 0 0,.int .i64 0] 70))):=hid (F0.o.alloc _)
theorem zP1{w:World}{g t:Nat}{cs:List Value}(P0:Hid (Whole w g t cs)):Whole (w.alloc (.cells #[.string ⟨#[]⟩,.int .i64 0,.string ⟨#[]⟩,.slice none 0 0,.slice none 0 0,.slice none 0 0,.int .i64 0] 70)) g t cs:=P0.o.alloc _
theorem zI1{g B0:Nat}{sv:Value}{now:Int}{lv:Value}{l:YX}{s:List Ent}{w:World}{n:Int}(hi:1 < l.length)(hz:∀t∈l,t.size≤60)(h1:z5l (wd l 1).data.toList=some n)(hv:Vars w)(h:Dr g B0 sv now lv l s w):Hid (∀(W),Fr [] w W→Calls prog 200 #[.pointer (some ⟨g,0,none⟩),.int .i64 1] W (fun e w'=>e=.returned (.int .i64 n)∧Fr [] W w')):=
 hid (fun W hW=>zhc g B0 sv now lv l s 1 n W hi (fun t ht=>by have:=hz t ht;omega) h1 (hv.fr hW) (h.go hW))
theorem zI2{g B0:Nat}{sv:Value}{now:Int}{lv:Value}{l:YX}{s:List Ent}{w:World}{n:Int}(hi:2 < l.length)(hz:∀t∈l,t.size≤60)(h1:z5l (wd l 2).data.toList=some n)(hv:Vars w)(h:Dr g B0 sv now lv l s w):Hid (∀(W),Fr [] w W→Calls prog 200 #[.pointer (some ⟨g,0,none⟩),.int .i64 2] W (fun e w'=>e=.returned (.int .i64 n)∧Fr [] W w')):=
 hid (fun W hW=>zhc g B0 sv now lv l s 2 n W hi (fun t ht=>by have:=hz t ht;omega) h1 (hv.fr hW) (h.go hW))
end
end Go.Proofs.YtnmoajaelmimnaaGreatDoor
