/- Contracts; no condition but each theorem's own. -/
import Derived.Test.YtnmoajaelmimnaaGreatDoorSlY19
import Derived.Sort.KeysCollected
set_option linter.unusedVariables false
set_option linter.unusedSimpArgs false
set_option maxHeartbeats 8000000
set_option maxRecDepth 100000
namespace Go.Proofs.YtnmoajaelmimnaaGreatDoor
open Go.Proofs.Tryz
section
open Go.RowKit
attribute [local go_sem] z1g
def set4(w:World)(o:Nat)(a b c d:Value):World:=(((w.setCell ⟨o,0,none⟩ a).setCell ⟨o,1,none⟩ b).setCell ⟨o,2,none⟩ c).setCell ⟨o,3,none⟩ d
theorem z2d{S:List Nat}{w w':World}{o:Nat}(h:Fr S w w')(ho:w.heap.size≤o)(x y z u):Fr S w (set4 w' o x y z u):=
 (((h.setCell (p:=⟨o,0,none⟩) (.inr ho) x).setCell (p:=⟨o,1,none⟩) (.inr ho) y).setCell (p:=⟨o,2,none⟩) (.inr ho) z).setCell (p:=⟨o,3,none⟩) (.inr ho) u
attribute [local go_sem] z1g
theorem zws{v:Int}(h:z0o v=true):(⟨(Lib.itoa v).toArray⟩:YY).size≤10:=by
 have:=(zpa h).2;show(Lib.itoa v).toArray.size≤10;simpa using this
theorem ba_eq{a b:YY}(h:a.data.toList=b.data.toList):a=b:=by
 cases a with|mk a=>cases b with|mk b=>exact congrArg ByteArray.mk (Array.toList_inj.1 h)
theorem rg_of{x:Itm}(f t:Int)(h:z02 1 x=0):(rgS x f t).data.toList=z28 x.text.data.toList f t:=by
 unfold rgS;rw[Xf h];exact zhi _ _ _
theorem zni{α:Type}(l:List α):z28 l 0 (-1)=l:=by
 unfold z28 z6x z6y;simp only[Int.lt_irrefl,if_false,show((-1:Int) < 0) from by decide,if_true];by_cases h:l.length=0
 ·rw[Xo h];simp
 ·rw[Xc (by omega),Xc (by omega)];rw[Xw (by omega)];rfl
theorem q6q{x:Itm}(h:z02 1 x=0):rgS x 0 (-1)=x.text:=ba_eq (by rw[rg_of _ _ h,zni])
theorem ad_ok{x:Itm}{n:Int}(h:z4p x n=0):z02 1 x=0∧z0o n=true∧z0o (z6f x+n)=true∧(x.kind≠0→z5l x.text.data.toList=some (z6f x))∧z0o (z6f x)=true∧adY x n=z50 ⟨(Lib.itoa (z6f x+n)).toArray⟩∧adN x n=z6f x+n:=by
 have b:adY x n=z50 ⟨(Lib.itoa (z6f x+n)).toArray⟩:=by unfold adY;rw[Xf h]
 have d:adN x n=z6f x+n:=by unfold adN;rw[Xf h]
 unfold z4p at h;by_cases h1:z02 1 x=0
 ·rw[Xc (by simpa using h1)] at h;by_cases h2:x.kind≠0∧z5l x.text.data.toList=none
  ·rw[Xf h2] at h;cases h
  ·rw[Xc h2] at h;by_cases h3:z0o n=true∧z0o (z6f x+n)=true
   ·have h4:x.kind≠0→z5l x.text.data.toList=some (z6f x):=fun a=>by
     cases hL:z5l x.text.data.toList with
     | none=>exact absurd ⟨a,hL⟩ h2
     | some u=>unfold z6f;rw[Xc a,hL];rfl
    refine⟨h1,h3.1,h3.2,h4,?_,b,d⟩;by_cases a:x.kind=0
    ·unfold z6f;rw[Xf a];decide
    ·exact(z7o.1 (h4 a)).1
   ·rw[Xc h3] at h;cases h
 ·rw[Xf h1] at h;exact absurd h h1
theorem ap_ok{x:Itm}{s:YY}(h:z4d x s=0):z02 1 x=0∧x.text.size+s.size≤60∧apY x s=z50 (x.text++s)∧apN x s=((x.text.size+s.size:Nat):Int):=by
 have a:apY x s=z50 (x.text++s):=by unfold apY;rw[Xf h]
 have b:apN x s=((x.text.size+s.size:Nat):Int):=by unfold apN;rw[Xf h]
 unfold z4d at h;by_cases h1:z02 1 x=0
 ·rw[Xc (by simpa using h1)] at h;by_cases h2:60 < x.text.size+s.size
  ·rw[Xf h2] at h;cases h
  ·exact⟨h1,by omega,a,b⟩
 ·rw[Xf h1] at h;exact absurd h h1
theorem ap_no{x:Itm}{s:YY}(h:z4d x s≠0):apY x s=z2q 0∧apN x s=0:=
 ⟨by unfold apY;rw[Xc h],by unfold apN;rw[Xc h]⟩
theorem q0o(y s:YY)(g:Nat)(w:World)(h:w.cell? ⟨g,0,none⟩=some (.string s)):
  Calls prog 264 #[.string y,.pointer (some ⟨g,0,none⟩)] w fun e w'=>e=.returned (.bool (decide (y=s)))∧Fr [] w w':=by
 have E:=hid (eqB y s);go_enter func264,ntmps264;go_wp2;go_ret;exact⟨by rw[←E.o];rfl,Fr.refl _ _⟩
theorem FrB.cellOf{S:List Nat}{B:Nat}{a b:World}(h:FrB S B a b){p:Addr}{v:Value}(hc:a.cell? p=some v)(hB:p.block < B)(hS:p.block∉S):b.cell? p=some v:=
 (World.cell?_of_block (h.block _ (World.block_lt_of_cell? a p hc) hB hS)).trans hc
theorem zwg(s)(g D:Nat)(w:World)(h:w.cell? ⟨g,0,none⟩=some (.string s))(hg:g < D):zm0 264 #[.pointer (some ⟨g,0,none⟩)] (fun y=>decide (y=s)) D w:=
 fun W x hW=>q0o x s g W (hW.cellOf h hg (by simp))
theorem zfx(x:Itm)(v)(s:YY)(w:World)(B:Nat)(hs:x.Small)(hB:B≤w.heap.size)(h:z0p w B v x):
  Calls prog 214 #[v,.string s] w (z57 (q51 x s) (z02 2 x) (zxj x s) w):=by
 have H:=hid (fun W (hf:Fr [] w W)=>zbc x v W B hs (Xd hB hf.size) (h.fr hf hB (by simp)));obtain⟨z,c1,R,c2,Q,N,rfl,Y,h2,h3⟩:=h;have H1:=hid Y;have A:=hid (BO.new2 w (.int .i64 x.kind) (.string x.text) (.slice z x.list.length c1) (.slice R x.pairs.length c2) (.slice Q x.scores.length N) (.string s));obtain⟨k,j,a,d,l⟩:=five A.o.b
 have S0:=hid (show(((w.alloc (.cells (yIa x z c1 R c2 Q N) 68)).alloc (.cells #[.string s] 9)).alloc (.cells yIza 68)).cell? ⟨w.heap.size+1,0,none⟩=some (.string s) from by
  have:=((Whole.new (w.alloc (.cells (yIa x z c1 R c2 Q N) 68)) 9 [.string s]).alloc (.cells yIza 68)).cell 0;simpa using this)
 have E:=hid (show zxj x s=if z02 2 x=0 then ofL (zry x s) else z2q 0 from rfl);have F:=hid (show q51 x s=if z02 2 x=0 then (x.list.length:Int) - (zry x s).length else 0 from rfl);have a8:=hs.list;clear Y h2 h3 hs;by_cases ha:z02 2 x=0
 ·have t:=z1m ha;rw[E.o,F.o,Xf ha,Xf ha,ha];rw[ha] at H;have a9:x.list.length≤24:=by have:=t.le24;unfold many at this;omega
  have aa:(zry x s).length≤x.list.length:=Xv _ _;have OF:=hid (fun W base u O=>z9a (zry x s) base u W (by omega) (fun y hy=>by have:=t.texts y (Yj.1 hy).1;omega) O);have CL:=hid (fun W (hW:Fr [] w W)=>z4s x.list.length (z03 x.list) z c1 W B (by omega) (Xd hB hW.size) (H1.o.fr hW hB (by simp)) (z2z _));have DF:=hid (fun W base u D (L:zm0 264 #[.pointer (some ⟨w.heap.size+1,0,none⟩)] (fun y=>decide (y=s)) D W) hD O=>(show Calls prog 263 #[u,.func (Fn.func 264) #[] #[.pointer (some ⟨w.heap.size+1,0,none⟩)]] W (zdn (zry x s) base u W) from zjf 264 #[.pointer (some ⟨w.heap.size+1,0,none⟩)] (z1b func264 (by kernel_rfl) rfl) (fun y=>decide (y=s)) D x.list base u W L hD (by omega) O));clear t E F ha;generalize ofL (zry x s)=y at *;have HW:=hid (show IntKind.i64.wrap ((x.list.length:Int) - ((zry x s).length:Int))=(x.list.length:Int) - (zry x s).length from IntWalk.i64_in _ (by omega));generalize zry x s=r at *;go_enter func214,ntmps214;go_wp2_with fail;refine(H.o _ A.o.f).mono ?_;rintro e V ⟨rfl,C⟩;have n:=hid (A.o.go C);have S1:=hid (C.cell S0.o (by simp));have hz1:=n.o.lt;clear k j a d l;obtain⟨k,j,a,d,l⟩:=five n.o.b;go_wp2_with fail;refine(CL.o _ n.o.f).mono ?_;rintro e w2 ⟨u,rfl,M,f2⟩;have Z:=hid (n.o.go f2);have S2:=hid (f2.cell S1.o (by simp));have HO:=hid M;obtain⟨U,cu,rfl,-⟩:=z05 M;have L:=hid (zwg s (w.heap.size+1) V.heap.size w2 S2.o (by omega));clear k j a d l M;obtain⟨k,j,a,d,l⟩:=five Z.o.b;go_wp2_with fail;refine(DF.o _ _ _ _ L.o (Xb _) HO.o).mono ?_;rintro e w3 ⟨u3,rfl,p,f3,-⟩;have X:=hid (Z.o.step f3 (fun g hg=>by have:=z19 HO.o hg;omega));have J:=hid p;obtain⟨U3,a7,rfl,-⟩:=z05 p;clear k j a d l p;obtain⟨k,j,a,d,l⟩:=five X.o.b;have a6:¬w.heap.size=w.heap.size+1+1:=by omega
  have a5:¬w.heap.size+1+1=w.heap.size:=by omega
  go_wp2;go_region_held3 (fun wx=>wx.cell? ⟨w.heap.size,2,none⟩=some (.slice z x.list.length c1)) (go_keep) (first|(go_at_call 262;(refine(OF.o _ _ _ (show w3.drew.ownsRow _ _ _ _ _ _ from J.o)).mono ?_);rintro e w5 ⟨u5,rfl,hi,f5⟩;have G:=hid (X.o.go (z01 f5));clear k j a d l f5;obtain⟨k,j,a,d,l⟩:=five G.o.b;have HI:=hid hi;obtain⟨P1,p1,P2,p2,P3,p3,rfl⟩:=hi.form;clear hi;have m:=G.o.o;rw[show w.heap.size+2=w.heap.size+1+1 from rfl] at m;obtain⟨P,T,S,I,K⟩:=five m;obtain⟨b0,b2,b3,b4,b5⟩:=z11 m;clear m))
  go_wp2;refine Xg (v:=.tuple #[.agg (yIa y P1 p1 P2 p2 P3 p3),.int .i64 (IntKind.i64.wrap ((x.list.length:Int) - (r.length:Int))),.int .i64 0]) (by simp[results,results214,go_sem,P,T,S,I,K]) rfl ?_;exact⟨_,by rw[HW.o],(z1v HI.o (by omega) _ _ _ _ _).less (by omega),G.o.end5 _ _ _ _ _⟩
 ·rw[E.o,F.o,Xc ha,Xc ha];have q2:(z02 2 x != 0)=true:=by simpa using ha
  clear E F ha;generalize z02 2 x=r at *;go_enter func214,ntmps214;go_wp2_with fail;refine(H.o _ A.o.f).mono ?_;rintro e V ⟨rfl,C⟩;have n:=hid (A.o.go C);clear k j a d l;have m:=n.o.o;rw[show w.heap.size+2=w.heap.size+1+1 from rfl] at m;obtain⟨P,T,S,I,K⟩:=five m;obtain⟨b0,b2,b3,b4,b5⟩:=z11 m;clear m;go_wp2;refine Xg (v:=.tuple #[.agg yIza,.int .i64 0,.int .i64 r]) (by simp[results,results214,go_sem,P,T,S,I,K]) rfl ?_;exact⟨_,rfl,z0k.nothing _ _,n.o.end5 _ _ _ _ _⟩
structure Rel(P:List Value→Ent→Prop)(rs:List (List Value))(l:List Ent):Prop where
 len:rs.length=l.length
 at_:∀(i:Nat) (e:Ent),l[i]? = some e→∃cs:List Value,rs[i]? = some cs∧P cs e
theorem Rel.nil{P:List Value→Ent→Prop}:Rel P [] []:=⟨rfl,fun i e h=>by simp at h⟩
theorem Rel.cons{P:List Value→Ent→Prop}{c:List Value}{e:Ent}{rs:List (List Value)}{l:List Ent}(h:P c e)(hr:Rel P rs l):Rel P (c :: rs) (e :: l):=
 ⟨by simp[hr.len],fun i x hx=>by
  cases i with
  | zero=>simp at hx;subst hx;exact⟨c,rfl,h⟩
  | succ i=>exact hr.at_ i x (by simpa using hx)⟩
theorem Rel.inv{P:List Value→Ent→Prop}{c:List Value}{e:Ent}{rs:List (List Value)}{l:List Ent}(h:Rel P (c :: rs) (e :: l)):P c e∧Rel P rs l:=by
 obtain⟨d,a,b⟩:=h.at_ 0 e rfl;simp at a;subst a;exact⟨b,⟨by simpa using h.len,fun i x f=>h.at_ (i+1) x (by simpa using f)⟩⟩
theorem Rel.filter{P:List Value→Ent→Prop}(q:List Value→Bool)(r:Ent→Bool)(hq:∀cs e,P cs e→q cs=r e):∀ {rs:List (List Value)} {l:List Ent},Rel P rs l→Rel P (rs.filter q) (l.filter r)
 | [],[],_=>Rel.nil
 | [],e :: l,h=>absurd h.len (by simp)
 | c :: rs,[],h=>absurd h.len (by simp)
 | c :: rs,e :: l,h=>by
  obtain⟨h1,h2⟩:=h.inv;have ih:=Rel.filter q r hq h2;rw[Vi,Vi,hq c e h1];split
  ·exact Rel.cons h1 ih
  ·exact ih
theorem Rel.append{P:List Value→Ent→Prop}:∀ {rs:List (List Value)} {l:List Ent} {rs':List (List Value)} {l':List Ent},Rel P rs l→Rel P rs' l'→Rel P (rs++rs') (l++l')
 | [],[],_,_,_,h=>h
 | [],e :: l,_,_,h,_=>absurd h.len (by simp)
 | c :: rs,[],_,_,h,_=>absurd h.len (by simp)
 | c :: rs,e :: l,_,_,h,h'=>Rel.cons h.inv.1 (Rel.append h.inv.2 h')
theorem Rel.take{P:List Value→Ent→Prop}(n:Nat){rs:List (List Value)}{l:List Ent}(h:Rel P rs l):Rel P (rs.take n) (l.take n):=
 ⟨by simp[h.len],fun i e he=>by
  rw[Un] at he;split at he
  ·rename_i hi;obtain⟨cs,h1,h2⟩:=h.at_ i e he;exact⟨cs,by rw[Vx hi];exact h1,h2⟩
  ·cases he⟩
theorem Rel.drop{P:List Value→Ent→Prop}(n:Nat){rs:List (List Value)}{l:List Ent}(h:Rel P rs l):Rel P (rs.drop n) (l.drop n):=
 ⟨by simp[h.len],fun i e he=>by
  rw[Yg] at he;obtain⟨cs,h1,h2⟩:=h.at_ _ e he;exact⟨cs,by rw[Yg];exact h1,h2⟩⟩
theorem Rel.imp{P Q:List Value→Ent→Prop}{rs:List (List Value)}{l:List Ent}(h:Rel P rs l)(hi:∀cs e,P cs e→Q cs e):Rel Q rs l:=
 ⟨h.len,fun i e he=>by
  obtain⟨cs,h1,h2⟩:=h.at_ i e he;exact⟨cs,h1,hi _ _ h2⟩⟩
theorem Rel.mem{P:List Value→Ent→Prop}{rs:List (List Value)}{l:List Ent}(h:Rel P rs l){c:List Value}(hc:c∈rs):∃e,e∈l∧P c e:=by
 obtain⟨i,hi⟩:=Yd hc;have a:=(Xe.1 hi).1;obtain⟨d,b,f⟩:=h.at_ i _ (Xa (show i < l.length by rw[←h.len];exact a));rw[hi] at b;cases b;exact⟨_,Vj _,f⟩
theorem zi0{w:World}{base e size n:Nat}{v:Value}{xs:List Value}(h:w.ownsRow base e size v n xs):∀k,k∈z1w v→k < w.heap.size:=fun k hk=>by
 unfold z1w at hk;split at hk
 ·simp at hk;subst hk;exact(h.lt _ rfl).2
 ·cases hk
def q6w(cs:List Value):Int:=match cs[6]? with|some (Value.int _ n)=>n|_=>0
theorem q4o{w:World}{base:Nat}{cs:List Value}{e:Ent}(h:z38 w base cs e):q6w cs=e.til:=by obtain⟨_,_,_,_,_,_,rfl,_⟩:=h;rfl
theorem zlf{w:World}{base:Nat}{cs:List Value}{e:Ent}(h:z38 w base cs e):zga cs:=by obtain⟨_,_,_,_,_,_,rfl,_⟩:=h;exact⟨_,_,_,_,_,_,_,_,_,_,_,_,_,rfl⟩
def zx0(l:List Ent)(now:Int):List Ent:=l.filter fun e=>!z60 e.til now
def zsp(l:List Ent)(base:Nat)(v:Value)(w:World)(r:Ending)(w':World):Prop:=∃v',r=.returned v'∧z2a w' base v' l∧Fr (z1w v) w w'
theorem zs4(x)(hx:zga x)(now:Int)(g:Nat)(w:World)(hg:w.cell? ⟨g,0,none⟩=some (.int .i64 now)):
  Calls prog 330 (#[.agg x.toArray]++#[.pointer (some ⟨g,0,none⟩)]) w fun e w'=>e=.returned (.bool (z60 (q6w x) now))∧Fr [] w w':=by
 obtain⟨d,h,u,k,r,s,m,n,f,l,t,j,a,rfl⟩:=hx;have y:=World.block_lt_of_cell? w _ hg;have p:=hid ((Fr.refl [] w).alloc (.cells #[.string d,.int .i64 h,.string u,.slice k r s,.slice m n f,.slice l t j,.int .i64 a] 70));have c1:=p.o.cell hg (by simp);have z:=hid (fun W=>zhn a now W);rw[show q6w [.string d,.int .i64 h,.string u,.slice k r s,.slice m n f,.slice l t j,.int .i64 a]=a from rfl];generalize z60 a now=b at *;go_enter func330,ntmps330;go_wp2_with fail;refine(z.o _).mono ?_;rintro e A ⟨rfl,rfl⟩;go_wp2;go_ret;exact⟨rfl,p.o⟩
theorem zx1(l:List Ent)(v)(now:Int)(base:Nat)(w)(hl:l.length≤1000000)(h:z2a w base v l):
  Calls prog 304 #[v,.int .i64 now] w (zsp (zx0 l now) base v w):=by
 have s:=hid ((Fr.refl [] w).alloc (.cells #[.int .i64 now] 3));have E:=hid (Whole.new w 3 [.int .i64 now]);obtain⟨p,b,j,h3⟩:=h.fr s.o;obtain⟨A,c,rfl,-⟩:=z05 h3;have R:=hid (show Rel (z38 (w.alloc (.cells #[.int .i64 now] 3)) base) p l from⟨b,j⟩)
 have g:∀k,k∈z1w (.slice A l.length c)→k < w.heap.size:=fun k z=>by
  obtain⟨I,_,_,d⟩:=h;exact zi0 d k z
 have t:=hid (zto 330 #[.pointer (some ⟨w.heap.size,0,none⟩)] (z1b func330 (by kernel_rfl) rfl) (fun x=>z60 (q6w x) now) p base (.slice A l.length c) (w.alloc (.cells #[.int .i64 now] 3)) (fun c J=>by
   obtain⟨e,_,f⟩:=R.o.mem J;exact zlf f) (fun W x G C=>by
   obtain⟨e,_,f⟩:=R.o.mem G;exact zs4 x (zlf f) now w.heap.size W (C.cell (E.o.cell 0) (fun H=>by have:=g _ H;simp at this))) (by omega) (by rw[b];exact h3))
 have y:=hid h3;clear h b j h3;go_enter func304,ntmps304;go_wp2_with fail;refine t.o.mono ?_;rintro e K ⟨L,rfl,r,n,u⟩;have F:=hid r;have m:=hid n;clear r n u;go_wp2;go_ret;have B:=Rel.filter (fun x=>!z60 (q6w x) now) (fun e=>!z60 e.til now) (fun D e h=>by rw[q4o h]) R.o;have a:=B.imp (fun D e h=>h.row y.o z2f m.o);refine⟨_,rfl,⟨_,a.len,a.at_,?_⟩,s.o.up.trans m.o⟩;have:=F.o;rw[a.len] at this;exact this
theorem q0x(ss:List YX)(u:Value)(A)(c:Nat)(x:Slt)(A1 A2 A3)(c1 c2 c3:Nat)(w:World)(B:Nat)(hx:x.Small)(hs:∀l∈ss,l.length≤281474976710656)(hl:ss.length≤281474976710656)(hu:u.oneCell'=true)(hB:B≤w.heap.size)(h:z5g w B (.slice A ss.length c) ss)(hv:zis w B (z3d x A1 c1 A2 c2 A3 c3) x):
  Calls prog 91 #[.agg #[u,.slice A ss.length c],.agg #[.string x.key,.bool x.cold,.int .i64 x.item.kind,.string x.item.text,.slice A1 x.item.list.length c1,.slice A2 x.item.pairs.length c2,.slice A3 x.item.scores.length c3,.int .i64 x.seg,.int .i64 x.rcd,.int .i64 x.til]] w fun e w'=>e=.returned (.int .i64 (z9r ss x))∧Fr [] w w':=by
 have D:=hid (((Fr.refl [] w).alloc (.cells #[u,.slice A ss.length c] 42)).alloc (.cells #[.string x.key,.bool x.cold,.int .i64 x.item.kind,.string x.item.text,.slice A1 x.item.list.length c1,.slice A2 x.item.pairs.length c2,.slice A3 x.item.scores.length c3,.int .i64 x.seg,.int .i64 x.rcd,.int .i64 x.til] 124));have K:=hid ((Whole.new w 42 [u,.slice A ss.length c]).alloc (.cells #[.string x.key,.bool x.cold,.int .i64 x.item.kind,.string x.item.text,.slice A1 x.item.list.length c1,.slice A2 x.item.pairs.length c2,.slice A3 x.item.scores.length c3,.int .i64 x.seg,.int .i64 x.rcd,.int .i64 x.til] 124))
 have J:=hid (show Whole ((w.alloc (.cells #[u,.slice A ss.length c] 42)).alloc (.cells #[.string x.key,.bool x.cold,.int .i64 x.item.kind,.string x.item.text,.slice A1 x.item.list.length c1,.slice A2 x.item.pairs.length c2,.slice A3 x.item.scores.length c3,.int .i64 x.seg,.int .i64 x.rcd,.int .i64 x.til] 124)) (w.heap.size+1) 124 [.string x.key,.bool x.cold,.int .i64 x.item.kind,.string x.item.text,.slice A1 x.item.list.length c1,.slice A2 x.item.pairs.length c2,.slice A3 x.item.scores.length c3,.int .i64 x.seg,.int .i64 x.rcd,.int .i64 x.til] from by
  have:=Whole.new (w.alloc (.cells #[u,.slice A ss.length c] 42)) 124 [.string x.key,.bool x.cold,.int .i64 x.item.kind,.string x.item.text,.slice A1 x.item.list.length c1,.slice A2 x.item.pairs.length c2,.slice A3 x.item.scores.length c3,.int .i64 x.seg,.int .i64 x.rcd,.int .i64 x.til];simpa using this)
 obtain⟨a,y⟩:=two K.o;obtain⟨t,d,z,g,s,k,n,b,j,p⟩:=ten J.o;have O:=hid (fun W=>z3m x.key W);have M:=hid (fun W=>z9m x.til W);have S:=hid (fun W (hW:Fr [] w W)=>z4g x.item _ W B hx.item (Xd hB hW.size) (hv.fr hW hB (by simp)).item);have Q:=hid (fun W (hW:Fr [] w W)=>z7u x.item _ W B hx.item (Xd hB hW.size) (hv.fr hW hB (by simp)).item);have P:=hid (fun W (hW:Fr [] w W)=>zx4 ss u A c x.seg x.rcd W B hs hl hu hx.seg hx.rcd (Xd hB hW.size) (h.fr hW hB (by simp)));have E:z9r ss x=if 60 < x.key.size then 2 else if x.cold=false∧z0a x.item≠0 then z0a x.item else if x.cold=false∧¬(x.seg=0∧x.rcd=0) then 1 else if x.cold=true∧z0v x.item=false then 1 else if x.cold=true∧z2w ss x.seg x.rcd=false then 5 else if z30 x.til=false then 3 else 0:=rfl
 have a3:=hx.seg;have a1:=hx.rcd;have a0:=hx.key;have a2:=hx.til;clear hx hv h;generalize z9r ss x=R at *;by_cases h1:60 < x.key.size
 ·rw[Xf h1] at E;subst E;have Y:decide (60 < x.key.size)=true:=Xi h1;rw[Y] at O;clear h1;go_enter func91,ntmps91;go_wp2_with fail;refine(O.o _).mono ?_;rintro C L ⟨rfl,m⟩;subst m;go_wp2;go_ret;exact⟨rfl,D.o⟩
 rw[Xc h1] at E;have Y:decide (60 < x.key.size)=false:=Xl h1;rw[Y] at O;clear h1;cases hc:x.cold with
 | false=>
  rw[hc] at D K J d a y E;rw[hc] at t z g s k n b j p;by_cases h2:z0a x.item=0
  ·rw[Xc (fun I=>I.2 h2)] at E;rw[h2] at S;by_cases h3:x.seg=0∧x.rcd=0
   ·rw[Xc (fun I=>I.2 h3),Xc (fun I=>Bool.noConfusion I.1),Xc (fun I=>Bool.noConfusion I.1)] at E;obtain⟨e1,e2⟩:=h3;rw[e1,e2] at D K J a y t d z g s k n b j p ⊢;clear P Q h2;by_cases h4:z30 x.til=true
    ·rw[Xc (by rw[h4];decide)] at E;subst E;rw[h4] at M;go_enter func91,ntmps91;go_wp2_with fail;refine(O.o _).mono ?_;rintro C L ⟨rfl,m⟩;subst m;go_wp2_with fail;refine(S.o _ D.o).mono ?_;rintro C T ⟨rfl,f⟩;have F:=hid (D.o.trans f);have H:=hid (K.o.fr f (by simp));have G:=hid (J.o.fr f (by simp));clear f a y t d z g s k n b j p;obtain⟨a,y⟩:=two H.o;obtain⟨t,d,z,g,s,k,n,b,j,p⟩:=ten G.o;go_wp2_with fail;refine(M.o _).mono ?_;rintro C L ⟨rfl,m⟩;subst m;go_wp2;go_ret;exact⟨rfl,F.o⟩
    ·have N:z30 x.til=false:=by simpa using h4
     rw[Xf N] at E;subst E;rw[N] at M;go_enter func91,ntmps91;go_wp2_with fail;refine(O.o _).mono ?_;rintro C L ⟨rfl,m⟩;subst m;go_wp2_with fail;refine(S.o _ D.o).mono ?_;rintro C T ⟨rfl,f⟩;have F:=hid (D.o.trans f);have H:=hid (K.o.fr f (by simp));have G:=hid (J.o.fr f (by simp));clear f a y t d z g s k n b j p;obtain⟨a,y⟩:=two H.o;obtain⟨t,d,z,g,s,k,n,b,j,p⟩:=ten G.o;go_wp2_with fail;refine(M.o _).mono ?_;rintro C L ⟨rfl,m⟩;subst m;go_wp2;go_ret;exact⟨rfl,F.o⟩
   ·rw[Xf ⟨rfl,h3⟩] at E;subst E;clear P Q M h2;go_enter func91,ntmps91;go_wp2_with fail;refine(O.o _).mono ?_;rintro C L ⟨rfl,m⟩;subst m;go_wp2_with fail;refine(S.o _ D.o).mono ?_;rintro C T ⟨rfl,f⟩;have F:=hid (D.o.trans f);have H:=hid (K.o.fr f (by simp));have G:=hid (J.o.fr f (by simp));clear f a y t d z g s k n b j p;obtain⟨a,y⟩:=two H.o;obtain⟨t,d,z,g,s,k,n,b,j,p⟩:=ten G.o;go_wp2
    all_goals go_ret
    all_goals exact⟨rfl,F.o⟩
  ·rw[Xf ⟨rfl,h2⟩] at E;have q2:(z0a x.item != 0)=true:=by simpa using h2
   subst E;clear P Q M h2;generalize z0a x.item=r at *;go_enter func91,ntmps91;go_wp2_with fail;refine(O.o _).mono ?_;rintro C L ⟨rfl,m⟩;subst m;go_wp2_with fail;refine(S.o _ D.o).mono ?_;rintro C T ⟨rfl,f⟩;have F:=hid (D.o.trans f);have H:=hid (K.o.fr f (by simp));have G:=hid (J.o.fr f (by simp));clear f a y t d z g s k n b j p;obtain⟨a,y⟩:=two H.o;obtain⟨t,d,z,g,s,k,n,b,j,p⟩:=ten G.o;go_wp2;go_ret;exact⟨rfl,F.o⟩
 | true=>
  rw[hc] at D K J d a y E;rw[hc] at t z g s k n b j p;rw[Xc (fun I=>Bool.noConfusion I.1),Xc (fun I=>Bool.noConfusion I.1)] at E;cases h2:z0v x.item with
  | false=>
   rw[Xf ⟨rfl,h2⟩] at E;subst E;rw[h2] at Q;clear P S M h2;go_enter func91,ntmps91;go_wp2_with fail;refine(O.o _).mono ?_;rintro C L ⟨rfl,m⟩;subst m;go_wp2_with fail;refine(Q.o _ D.o).mono ?_;rintro C T ⟨rfl,f⟩;have F:=hid (D.o.trans f);have H:=hid (K.o.fr f (by simp));have G:=hid (J.o.fr f (by simp));clear f a y t d z g s k n b j p;obtain⟨a,y⟩:=two H.o;obtain⟨t,d,z,g,s,k,n,b,j,p⟩:=ten G.o;go_wp2;go_ret;exact⟨rfl,F.o⟩
  | true=>
   rw[Xc (fun I=>by rw[h2] at I;exact Bool.noConfusion I.2)] at E;rw[h2] at Q;clear h2 S;cases h3:z2w ss x.seg x.rcd with
   | false=>
    rw[Xf ⟨rfl,h3⟩] at E;subst E;rw[h3] at P;clear M h3;go_enter func91,ntmps91;go_wp2_with fail;refine(O.o _).mono ?_;rintro C L ⟨rfl,m⟩;subst m;go_wp2_with fail;refine(Q.o _ D.o).mono ?_;rintro C T ⟨rfl,f⟩;have F:=hid (D.o.trans f);have H:=hid (K.o.fr f (by simp));have G:=hid (J.o.fr f (by simp));clear f a y t d z g s k n b j p;obtain⟨a,y⟩:=two H.o;obtain⟨t,d,z,g,s,k,n,b,j,p⟩:=ten G.o;go_wp2_with fail;refine(P.o _ F.o).mono ?_;rintro C Z ⟨rfl,f⟩;have X:=hid (F.o.trans f);have V:=hid (H.o.fr f (by simp));have U:=hid (G.o.fr f (by simp));clear f a y t d z g s k n b j p;obtain⟨a,y⟩:=two V.o;obtain⟨t,d,z,g,s,k,n,b,j,p⟩:=ten U.o;go_wp2;go_ret;exact⟨rfl,X.o⟩
   | true=>
    rw[Xc (fun I=>by rw[h3] at I;exact Bool.noConfusion I.2)] at E;rw[h3] at P;clear h3;by_cases h4:z30 x.til=true
    ·rw[Xc (by rw[h4];decide)] at E;subst E;rw[h4] at M;go_enter func91,ntmps91;go_wp2_with fail;refine(O.o _).mono ?_;rintro C L ⟨rfl,m⟩;subst m;go_wp2_with fail;refine(Q.o _ D.o).mono ?_;rintro C T ⟨rfl,f⟩;have F:=hid (D.o.trans f);have H:=hid (K.o.fr f (by simp));have G:=hid (J.o.fr f (by simp));clear f a y t d z g s k n b j p;obtain⟨a,y⟩:=two H.o;obtain⟨t,d,z,g,s,k,n,b,j,p⟩:=ten G.o;go_wp2_with fail;refine(P.o _ F.o).mono ?_;rintro C Z ⟨rfl,f⟩;have X:=hid (F.o.trans f);have V:=hid (H.o.fr f (by simp));have U:=hid (G.o.fr f (by simp));clear f a y t d z g s k n b j p;obtain⟨a,y⟩:=two V.o;obtain⟨t,d,z,g,s,k,n,b,j,p⟩:=ten U.o;go_wp2_with fail;refine(M.o _).mono ?_;rintro C L ⟨rfl,m⟩;subst m;go_wp2;go_ret;exact⟨rfl,X.o⟩
    ·have N:z30 x.til=false:=by simpa using h4
     rw[Xf N] at E;subst E;rw[N] at M;go_enter func91,ntmps91;go_wp2_with fail;refine(O.o _).mono ?_;rintro C L ⟨rfl,m⟩;subst m;go_wp2_with fail;refine(Q.o _ D.o).mono ?_;rintro C T ⟨rfl,f⟩;have F:=hid (D.o.trans f);have H:=hid (K.o.fr f (by simp));have G:=hid (J.o.fr f (by simp));clear f a y t d z g s k n b j p;obtain⟨a,y⟩:=two H.o;obtain⟨t,d,z,g,s,k,n,b,j,p⟩:=ten G.o;go_wp2_with fail;refine(P.o _ F.o).mono ?_;rintro C Z ⟨rfl,f⟩;have X:=hid (F.o.trans f);have V:=hid (H.o.fr f (by simp));have U:=hid (G.o.fr f (by simp));clear f a y t d z g s k n b j p;obtain⟨a,y⟩:=two V.o;obtain⟨t,d,z,g,s,k,n,b,j,p⟩:=ten U.o;go_wp2_with fail;refine(M.o _).mono ?_;rintro C L ⟨rfl,m⟩;subst m;go_wp2;go_ret;exact⟨rfl,X.o⟩
section
variable {w w1 wr:World} {base:Nat} {v a b p q:Value} {cs:List Value} {e:Slt} {l:List Slt} {ls:List YX}
theorem z4a.later(h:z4a w base cs e){p:Addr}(hp:p.block < base)(u):z4a (w.setCell p u) base cs e:=by
 obtain⟨a,c1,d,c2,b,j,f,k,g,h3⟩:=h;exact⟨a,c1,d,c2,b,j,f,z0d k hp u,z0d g hp u,z0d h3 hp u⟩
theorem z6c.later(h:z6c w base v l){p:Addr}(hp:p.block < base)(u):z6c (w.setCell p u) base v l:=by
 obtain⟨a,g,d,h3⟩:=h
 exact⟨a,g,fun i e b=>by
  obtain⟨f,h4,j⟩:=d i e b;exact⟨f,h4,j.later hp u⟩,z0d h3 hp u⟩
theorem z2b.later{mid:Nat}(h:z2b w base mid v l){p:Addr}(hp:p.block < base)(u):z2b (w.setCell p u) base mid v l:=by
 obtain⟨b,a,h3⟩:=h;exact⟨b,a.imp fun _ _ h=>⟨h.1.later hp u,h.2⟩,z0d h3 hp u⟩
theorem z71.later(h:z71 w base v ls){p:Addr}(hp:p.block < base)(u):z71 (w.setCell p u) base v ls:=by
 obtain⟨d,a,b,h3⟩:=h;exact⟨d,a.imp fun _ _ h=>z0d h hp u,b,z0d h3 hp u⟩
theorem z6c.snoc{w':World}{v':Value}{rs:List (List Value)}(hl:rs.length=l.length)(h:∀(i:Nat) (e),l[i]? = some e→∃cs:List Value,rs[i]? = some cs∧z4a w' base cs e)(he:z4a w' base cs e)(ho:w'.ownsRow base 124 10 v' (l.length+1) (rs.flatten++cs)):z6c w' base v' (l++[e]):=by
 refine⟨rs++[cs],by simp[hl],fun i x a=>?_,by simpa using ho⟩;rcases Yc i l.length with h1|h1
 ·rw[Xu h1] at a;obtain⟨d,b,h3⟩:=h i x a;exact⟨d,by rw[Xu (by omega)];exact b,h3⟩
 ·have:i=l.length:=by have:=(Xe.1 a).1;simp at this;omega
  subst this;rw[Xq (Xb _),Ux] at a;simp at a;subst a;exact⟨cs,by rw[Xq (by omega),hl,Ux];rfl,he⟩
structure OwC(w:World)(a b:Value)(wr:World)(p q:Value):Prop where
 f:Fr [] w wr
 pa:Whole wr w.heap.size 42 [a,b]
 ra:Whole wr (w.heap.size+1) 42 [.slice none 0 0,.slice none 0 0]
 oa:Whole wr (w.heap.size+2) 42 [p,q]
theorem OwC.new(w)(a b):OwC w a b (((w.alloc (.cells #[a,b] 42)).alloc (.cells #[.slice none 0 0,.slice none 0 0] 42)).alloc (.cells #[.slice none 0 0,.slice none 0 0] 42)) (.slice none 0 0) (.slice none 0 0):=
 ⟨(((Fr.refl [] w).alloc _).alloc _).alloc _,((Whole.new w _ [a,b]).alloc _).alloc _,by
  have:=(Whole.new (w.alloc (.cells #[a,b] 42)) 42 [.slice none 0 0,.slice none 0 0]).alloc (.cells #[.slice none 0 0,.slice none 0 0] 42);simpa using this,by
  have:=Whole.new ((w.alloc (.cells #[a,b] 42)).alloc (.cells #[.slice none 0 0,.slice none 0 0] 42)) 42 [.slice none 0 0,.slice none 0 0];simpa using this⟩
theorem OwC.go(h:OwC w a b wr p q)(k:Fr [] wr w1):OwC w a b w1 p q:=⟨h.f.trans k,h.pa.fr k (by simp),h.ra.fr k (by simp),h.oa.fr k (by simp)⟩
theorem OwC.grown{T size n base':Nat}{u:Value}{xs:List Value}(h:OwC w a b wr p q)(ho:wr.ownsRow base' T size u n xs)(hb:w.heap.size+3≤base')(hg:wr.grownBy w1 u.ownBlock):OwC w a b w1 p q:=
 have hk:∀j,u.ownBlock=some j→w.heap.size+3≤j:=fun j hj=>Xd hb (ho.lt j hj).1
 ⟨h.f.grown hg (fun j hj=>.inr (by have:=hk j hj;omega)),h.pa.grown hg (fun e=>by have:=hk _ e.symm;omega),h.ra.grown hg (fun e=>by have:=hk _ e.symm;omega),h.oa.grown hg (fun e=>by have:=hk _ e.symm;omega)⟩
theorem OwC.put0(h:OwC w a b wr p q)(u):OwC w a b (wr.setCell ⟨w.heap.size+2,0,none⟩ u) u q:=
 ⟨h.f.setCell (.inr (by show w.heap.size≤w.heap.size+2;omega)) u,h.pa.far (by show w.heap.size≠w.heap.size+2;omega) u,h.ra.far (by show w.heap.size+1≠w.heap.size+2;omega) u,h.oa.set_ 0 u⟩
theorem OwC.put1(h:OwC w a b wr p q)(u):OwC w a b (wr.setCell ⟨w.heap.size+2,1,none⟩ u) p u:=
 ⟨h.f.setCell (.inr (by show w.heap.size≤w.heap.size+2;omega)) u,h.pa.far (by show w.heap.size≠w.heap.size+2;omega) u,h.ra.far (by show w.heap.size+1≠w.heap.size+2;omega) u,h.oa.set_ 1 u⟩
end
theorem q0r{w:World}{base:Nat}{vs:List Value}{ls:List YX}(h:zbn (TxO w base) vs ls):∀u∈vs,u.oneCell'=true:=fun u hu=>by
 obtain⟨x,-,hx⟩:=h.mem hu;exact hx.one
def StI(w:World)(base:Nat)(v:Value)(s:Sto):Prop:=∃mid a b,v=.agg #[a,b]∧base≤mid∧z2b w base mid a s.slots∧z71 w mid b s.segs
def OwnSt(base:Nat)(s:Sto)(w:World)(r:Ending)(w':World):Prop:=∃u,r=.returned u∧StI w' base u s∧Fr [] w w'
structure Bulk(s:Sto):Prop where
 it:∀e∈s.slots,e.item.list.length≤1000000∧e.item.pairs.length≤1000000∧e.item.scores.length≤1000000
 sl:s.slots.length≤1000000
 sg:s.segs.length≤1000000
 rw_:∀l∈s.segs,l.length≤1000000
theorem z9k(s:Sto)(v)(w:World)(B:Nat)(hs:s.Small)(hk:Bulk s)(hB:B≤w.heap.size)(h:z5p w B v s):
  Calls prog 72 #[v] w (OwnSt (w.heap.size+3) s w):=by
 obtain⟨a,b,rfl,h1,h2⟩:=h;obtain⟨A,c,rfl⟩:=h1.form;obtain⟨RA,rc,rfl⟩:=h2.form;obtain⟨i0,hi,hz0,hz1,hz2⟩:=info_parts zwv;obtain⟨j0,hj,aa,ab,a7⟩:=info_parts zi5;have HV:=hid h1;have HR:=hid h2;have HS:=hid hs;have HK:=hid hk;have b5:=hk.sl;have ba:=hk.sg;obtain⟨a0,ao⟩:∃a0,a0=Value.slice A s.slots.length c:=⟨_,rfl⟩;obtain⟨b0,a5⟩:∃b0,b0=Value.slice RA s.segs.length rc:=⟨_,rfl⟩;have O0:=hid (OwC.new w (.slice A s.slots.length c) (.slice RA s.segs.length rc));obtain⟨p0,Q⟩:=two O0.o.pa;have O0:=hid (show OwC w a0 b0 _ (.slice none 0 0) (.slice none 0 0) from by rw[ao,a5];exact O0.o);have af:=hid a5;clear h1 h2 hs hk ao a5;go_enter func72,ntmps72;go_wp2;clear p0 Q;go_loopg [11] s.slots.length (fun g i wr=>∃(k:Nat) (o:Value),g=s.slots.length - k∧k≤s.slots.length∧i=.int .i64 k∧z6c wr (w.heap.size+3) o (s.slots.take k)∧OwC w a0 b0 wr o (.slice none 0 0))
 case atStart=>exact⟨0,_,rfl,Xt _,rfl,by rw[Jd];exact z6c.nil _ _,O0.o⟩
 case round=>
  obtain⟨k,o,rfl,hk,rfl,hO,G⟩:=hrel;have HO:=hid hO;have OC:=hid G;have HF:=hid G.f;have t:(s.slots.take k).length=k:=by rw[Xp];omega
  obtain⟨Ao,co,hv⟩:=hO.form;rw[t] at hv;subst hv;have b7:w.heap.size+2 < wr.heap.size:=G.oa.lt;clear hO G t;by_cases hlt:k < s.slots.length
  ·obtain⟨b,off,rfl,hb,hc,ai,P⟩:=HV.o.at_ (by omega);obtain⟨e,he⟩:∃e,s.slots[k]? = some e:=⟨_,Xa hlt⟩;obtain⟨A1,A2,A3,c1,c2,c3,ac⟩:=P k e he;have Z:=Xj he;have al:=hid (ac.fr HF.o hb hB (by simp));obtain⟨x0,x1,x2,x3,x4,x5,x6,x7,x8,x9,-⟩:=al.o;have ET:=hid (show s.slots.take (k+1)=s.slots.take k++[e] from by rw[Xz,he];rfl);have LT:=hid (show(s.slots.take k).length=k from by rw[Xp];omega);have V1:=hid (Whole.new wr 124 (ySl e A1 c1 A2 c2 A3 c3));have F1:=hid ((Fr.refl [] wr).alloc (.cells (ySa e A1 c1 A2 c2 A3 c3) 124));obtain⟨n1,n2,n3⟩:=HK.o.it e Z;have OW:=hid (za1 e.item _ _ B (HS.o.slots e Z).item n1 n2 n3 (Xd hB (Xd HF.o.size F1.o.size)) ((al.o.ent.fr F1.o (Xd hB HF.o.size) (by simp)).item));clear P ac he Z n1 n2 n3;go_wp2_with fail;refine OW.o.mono ?_;rintro e2 w2 ⟨u,rfl,a1,f2⟩;have V2:=hid (V1.o.fr f2 (by simp));have G2:=hid (F1.o.trans f2);have aw:=hid a1;obtain⟨P1,Q,P2,Y,P3,X,rfl⟩:=a1.form;have b4:=V2.o.lt;clear a1 f2 x0 x1 x2 x3 x4 x5 x6 x7 x8 x9;obtain⟨y0,y1,y2,y3,y4,y5,y6,y7,y8,y9⟩:=ten V2.o;obtain⟨z0,z1,z2,z3,z4,z5,z6,z7,z8,z9⟩:=tenF V2.o;obtain⟨F,O⟩:∃F,F=((((w2.setCell ⟨wr.heap.size,2,none⟩ (.int .i64 e.item.kind)).setCell ⟨wr.heap.size,3,none⟩ (.string e.item.text)).setCell ⟨wr.heap.size,4,none⟩ (.slice P1 e.item.list.length Q)).setCell ⟨wr.heap.size,5,none⟩ (.slice P2 e.item.pairs.length Y)).setCell ⟨wr.heap.size,6,none⟩ (.slice P3 e.item.scores.length X):=⟨_,rfl⟩
   have G3:=hid (show Fr [] wr F from by
    rw[O];exact(((((G2.o.setCell (p:=⟨wr.heap.size,2,none⟩) (.inr (Xb _)) _).setCell (p:=⟨wr.heap.size,3,none⟩) (.inr (Xb _)) _).setCell (p:=⟨wr.heap.size,4,none⟩) (.inr (Xb _)) _).setCell (p:=⟨wr.heap.size,5,none⟩) (.inr (Xb _)) _).setCell (p:=⟨wr.heap.size,6,none⟩) (.inr (Xb _)) _))
   have V3:=hid (show Whole F wr.heap.size 124 (ySl e P1 Q P2 Y P3 X) from by
    rw[O];exact(((((V2.o.set_ 2 _).set_ 3 _).set_ 4 _).set_ 5 _).set_ 6 _))
   have ay:=hid (show z4a F (w.heap.size+3) (z3d e P1 Q P2 Y P3 X) e from by
    rw[O];obtain⟨L1,L2,L3,hv,o1,o2,o3⟩:=aw.o;cases hv;have m:wr.heap.size < (wr.alloc (.cells (ySa e A1 c1 A2 c2 A3 c3) 124)).heap.size:=by simp
    exact⟨_,_,_,_,_,_,rfl,z0i (z0d (z0d (z0d (z0d (z0d o1 m _) m _) m _) m _) m _) (by omega),z0i (z0d (z0d (z0d (z0d (z0d o2 m _) m _) m _) m _) m _) (by omega),z0i (z0d (z0d (z0d (z0d (z0d o3 m _) m _) m _) m _) m _) (by omega)⟩)
   have b1:=hid (HO.o.fr G3.o);have ak:=hid (OC.o.go G3.o);have ah:=hid O;clear O;go_upto_region 6 with fail;rw[←ah.o];clear ah y0 y1 y2 y3 y4 y5 y6 y7 y8 y9 z0 z1 z2 z3 z4 z5 z6 z7 z8 z9;obtain⟨y0,y1,y2,y3,y4,y5,y6,y7,y8,y9⟩:=ten V3.o;obtain⟨V,S⟩:=two ak.o.oa;obtain⟨rs,K,I,M⟩:=b1.o;have ag:=hid (show F.ownsRow (w.heap.size+3) 124 10 (.slice Ao k co) k rs.flatten from by have:=M;rw[LT.o] at this;exact this);have R:=hid K;have a4:=hid I;have b8:wr.heap.size≤F.heap.size:=G3.o.size;have ax:=hid (z0l (World.ownsRow_lit (base:=F.heap.size) (e:=124) (size:=10) F (ySa e P1 Q P2 Y P3 X) 1 (Xb _) (by decide) rfl));clear K I M;go_wp2_with (at_builtin;refine z0c _ rfl _ _ 39 rfl (w.heap.size+3) 124 i0 _ 10 144 underlying39 hi hz0 hz1 hz2 rfl (by decide) _ _ _ rfl (ag.o.alloc _) _ _ 1 _ rfl ax.o (zbk e P1 P2 P3 Q Y X) ?c1 ?c2 ?c3 ?_)
   case c1=>unfold maxLen;omega
   case c2=>omega
   case c3=>first|omega|(simp;omega)
   intro v' w5 r n N;have a3:=hid r;have H:=hid n;obtain⟨A5,c5,rfl,-⟩:=z05 r;have OA:=hid (ag.o.alloc (.cells (ySa e P1 Q P2 Y P3 X) 124));have C:=hid ((ak.o.go ((Fr.refl [] F).alloc (.cells (ySa e P1 Q P2 Y P3 X) 124))).grown OA.o (Xb _) n)
   have HE:=hid (show z6c w5 (w.heap.size+3) (.slice A5 (k+1) c5) (s.slots.take (k+1)) from by
    rw[ET.o];have ff:=z1u H.o;refine z6c.snoc R.o (fun i x hx=>?_) ((ay.o.fr ((Fr.refl [] F).alloc _)).row OA.o z5n ff) (by rw[LT.o];exact a3.o);obtain⟨d,h3,h4⟩:=a4.o i x hx;exact⟨d,h3,(h4.fr ((Fr.refl [] F).alloc _)).row OA.o z5n ff⟩)
   clear r n N V S y0 y1 y2 y3 y4 y5 y6 y7 y8 y9;obtain⟨V,S⟩:=two C.o.oa;obtain⟨v0,v1⟩:=zo1 C.o.oa;go_wp2;go_roundg (s.slots.length - (k+1))
   case measure=>omega
   case rel=>exact⟨k+1,_,rfl,by omega,by go_num,HE.o.later (by show w.heap.size+2 < w.heap.size+3;omega) _,C.o.put0 _⟩
  obtain rfl:k=s.slots.length:=by omega
  rw[Ym] at HO;rw[af.o] at OC;obtain⟨p0,Q⟩:=two OC.o.pa;go_wp2;rw[←af.o] at OC;clear p0 Q;obtain⟨mid,D⟩:∃mid,mid=wr.heap.size:=⟨_,rfl⟩;have an:w.heap.size+3≤mid:=by omega
  have b2:=hid (show z2b wr (w.heap.size+3) mid (.slice Ao s.slots.length co) s.slots from by rw[D];exact HO.o.i);have az:=hid D;clear D;go_loopg [29] s.segs.length (fun g i J=>∃(k:Nat) (o:Value),g=s.segs.length - k∧k≤s.segs.length∧i=.int .i64 k∧z71 J mid o (s.segs.take k)∧z2b J (w.heap.size+3) mid (.slice Ao s.slots.length co) s.slots∧mid≤J.heap.size∧OwC w a0 b0 J (.slice Ao s.slots.length co) o)
  case atStart=>exact⟨0,_,rfl,Xt _,rfl,by rw[Jd];exact z71.nil _ _,b2.o,by rw[az.o];exact Xb _,OC.o⟩
  case round=>
  obtain⟨k,o,rfl,hk,rfl,hO,a9,b3,G⟩:=hrel;obtain⟨J,rfl⟩:∃J,J=wr:=⟨_,rfl⟩;have E:=hid G;have a6:=hid G.f;have am:=hid a9;have t:(s.segs.take k).length=k:=by rw[Xp];omega
  obtain⟨Aq,cq,hv⟩:=hO.form;rw[t] at hv;subst hv;have b6:w.heap.size+2 < J.heap.size:=G.oa.lt;have L:=hid hO;clear hO G a9 t;by_cases hlt:k < s.segs.length
  ·obtain⟨b,off,rfl,hb,hc,ai,P⟩:=HR.o.at_ (by omega);obtain⟨l,hl⟩:∃l,s.segs[k]? = some l:=⟨_,Xa hlt⟩;obtain⟨A1,c1,x0,s0⟩:=P k l hl;have x1:=a6.o.cell x0 (by simp);have ad:=Xj hl;have a8:=HK.o.rw_ l ad;have CL:=hid (fun W (G:Fr [] J W)=>z4s l.length (z03 l) A1 c1 W B a8 (Xd hB (a6.o.trans G).size) (s0.fr (a6.o.trans G) hB (by simp)) (z2z l));have ET:=hid (show s.segs.take (k+1)=s.segs.take k++[l] from by rw[Xz,hl];rfl);have LT:=hid (show(s.segs.take k).length=k from by rw[Xp];omega);obtain⟨vs,K,I,M⟩:=L.o;have HQ:=hid (show J.ownsRow mid 24 1 (.slice Aq k cq) k vs from by have:=M;rw[LT.o] at this;exact this);have R:=hid K;have a4:=hid I;have q1:k+1≤maxLen:=by unfold maxLen;omega
   have q2:(k+1) * 24≤140737488355328:=by omega
   obtain⟨V,S⟩:=two E.o.oa;have T3:=HK.o;unfold maxLen at ai;clear P hl x0 s0 ad a8 K I M T3;go_wp2
   go_region_law (first
    | (refine z3u _ (by rfl) _ _ 40 (by rfl) mid 24 j0 _ 1 24 underlying40 hj aa ab a7 rfl (by decide) _ _ _ (by rfl) (aj.o.alloc _) _ _ 1 _ (by rfl) av.o (by simp[Value.oneCell']) q1 q2 q4 ?_
       intro v' w5 r n N;obtain⟨A5,c5,rfl,-⟩:=z05 r;have OQ:=hid (aj.o.alloc (.cells #[.slice U l.length cu] 24));have C:=hid ((a2.o.go ((Fr.refl [] T).alloc (.cells #[.slice U l.length cu] 24))).grown OQ.o an n);have H:=hid n;have a3:=hid r;clear r n N V S ua;obtain⟨V,S⟩:=two C.o.oa;obtain⟨v0,v1⟩:=zo1 C.o.oa)
    | (go_simp
       go_at_call 119;refine(CL.o _ (Fr.refl [] _).drew).mono ?_;rintro e4 T ⟨u,rfl,ou,f4⟩;have F4:=hid (z01 f4);have HU:=hid (show T.ownsRow J.heap.size 9 1 u l.length (z03 l) from ou);obtain⟨U,cu,rfl,-⟩:=z05 ou;have a2:=hid (E.o.go F4.o);have aj:=hid (z08 HQ.o F4.o (by simp));have ar:=hid (R.o.imp fun _ _ h=>z08 h F4.o (by simp));have b9:=F4.o.size;have av:=hid (z0l (World.ownsRow_lit (base:=T.heap.size) (e:=24) (size:=1) T #[.slice U l.length cu] 1 (Xb _) (by decide) rfl));have q4:mid≤(T.alloc (.cells #[.slice U l.length cu] 24)).heap.size:=by simp;omega
       clear ou f4 V S x1;obtain⟨V,S⟩:=two a2.o.oa;have ua:(T.alloc (.cells #[.slice U l.length cu] 24)).cell? ⟨w.heap.size+2,1,none⟩=some (.slice Aq k cq):=(a2.o.oa.alloc _).cell 1))
   all_goals
    have HE:=hid (show z71 w5 mid (.slice A5 (k+1) c5) (s.segs.take (k+1)) from by
     rw[ET.o];have ga:=(Fr.refl [] T).alloc (.cells #[.slice U l.length cu] 24);refine z71.snoc (ar.o.imp fun _ _ h=>z08 h ga (by simp)) a4.o (z08 (z0i HU.o (by omega)) ga (by simp)) (fun y hy j hj hk=>?_) LT.o OQ.o H.o a3.o;obtain⟨z,-,hz⟩:=R.o.mem hy;have h1:=(hz.lt j hj).2;have h2:=(HU.o.lt j hk).1;omega)
    have aq:=hid (Xd q4 H.o.size);have au:=hid (show z2b w5 (w.heap.size+3) mid (.slice Ao s.slots.length co) s.slots from((am.o.go F4.o).go ((Fr.refl [] T).alloc _)).row OQ.o ⟨z7b,by decide⟩ (z1u H.o));go_wp2;go_roundg (s.segs.length - (k+1))
    case measure=>omega
    case rel=>exact⟨k+1,_,rfl,by omega,by go_num,HE.o.later (by show w.heap.size+2 < mid;omega) _,au.o.later (by show w.heap.size+2 < w.heap.size+3;omega) _,by show mid≤(w5.setCell _ _).heap.size;rw[show(w5.setCell ⟨w.heap.size+2,1,none⟩ (.slice A5 (k+1) c5)).heap.size=w5.heap.size from by simp[World.setCell]];exact aq.o,C.o.put1 _⟩
  obtain rfl:k=s.segs.length:=by omega
  rw[Ym] at L;obtain⟨V,S⟩:=two E.o.oa;obtain⟨r0,r1⟩:=two E.o.ra;obtain⟨f0,f1⟩:=zo1 E.o.ra;go_wp2;refine Xg (v:=.agg #[.slice Ao s.slots.length co,.slice Aq s.segs.length cq]) (by simp[results,results72,go_sem,r0,r1]) rfl ?_;have ap:w.heap.size+1 < w.heap.size+3:=by omega
  have ae:w.heap.size+1 < mid:=by omega
  exact⟨_,rfl,⟨mid,_,_,rfl,an,(am.o.later (p:=⟨w.heap.size+1,0,none⟩) ap _).later (p:=⟨w.heap.size+1,1,none⟩) ap _,(L.o.later (p:=⟨w.heap.size+1,0,none⟩) ae _).later (p:=⟨w.heap.size+1,1,none⟩) ae _⟩,(E.o.f.setCell (p:=⟨w.heap.size+1,0,none⟩) (.inr (by show w.heap.size≤w.heap.size+1;omega)) _).setCell (p:=⟨w.heap.size+1,1,none⟩) (.inr (by show w.heap.size≤w.heap.size+1;omega)) _⟩
theorem lawT:Maps.Keyed prog 9:=Maps.string_keyed underlying9
theorem zeroT(w):(zeroValue 3).run prog w=.ok (.int .i64 0) w:=by kernel_rfl
theorem Fr.grown0{a b:World}(h:Fr [] a b):a.grownBy b none:=⟨h.os,h.tape,h.output,h.size,fun i hi _=>h.block i hi (by simp)⟩
theorem keyT(s:YY)(hs:s.size≤281474976710656):keyOf prog 9 (.string s)=some (kS s):=WideMaps.keyOf_string_mk underlying9 (by unfold maxLen;omega)
theorem zzj(key)(kl:Lit)(h:keyOf prog 9 key=some kl):∃s:YY,key=.string s:=by
 obtain⟨x,a,_,_⟩:=Maps.keyOf_str underlying9 h;exact⟨unB x,a⟩
theorem zzk{s:YY}{kl:Lit}(h:keyOf prog 9 (.string s)=some kl):kl=kS s:=by
 obtain⟨x,a,rfl,_⟩:=Maps.keyOf_str underlying9 h;have:=Value.string.inj a;subst this;rfl
theorem zu8(v)(y:DataW Unit×List MemPlace)(h:plainElem prog 3 v=some y):∃c:Int,v=.int .i64 c:=by
 obtain⟨c,rfl,_⟩:=plainElem_int_inv underlying3 h;exact⟨c,rfl⟩
abbrev OwnM(w:World)(b n:Nat)(D:DataW Unit):Prop:=w.ownsMap prog 9 (plainElem prog 3) b n D
abbrev RanM(w:World)(b r n:Nat)(D:DataW Unit)(left:Lit→Bool)(cnt:Nat):Prop:=w.ranges prog 9 (plainElem prog 3) b r n D left cnt
theorem zg6{l:List Itm}{k:Nat}{x:Itm}(h:l[k]? = some x):zcy (l.take (k+1))=zcy (l.take k)++x.list:=by
 unfold zcy;rw[Xz,h];simp
theorem q4m{l:List Itm}{k:Nat}{x:Itm}{c:Int}(h:∀y∈l.take k,z02 c y=0)(hx:l[k]? = some x)(ha:z02 c x=0):∀y∈l.take (k+1),z02 c y=0:=by
 intro y a;rw[Xz,hx] at a;rcases Ys.1 a with a|a
 ·exact h y a
 ·simp at a;subst a;exact ha
theorem zh3{l:List Itm}(h:∀y∈l,z02 3 y=0):(zcy l).length≤24 * l.length:=by
 induction l with
 | nil=>simp[zcy]
 | cons x l ih=>
  have a:=ih fun y b=>h y (by simp[b]);have d:=(zih (h x (by simp))).2;unfold zcy at a ⊢;rw[Ul,Xk,Xy];omega
theorem ztd{n:Nat}{c:Int}(h:nI n=.lit (.int .i64 c)):c=(n:Int):=by
 unfold nI at h;exact(Lit.int.inj (DataW.lit.inj h)).2.symm
theorem elemN(n:Nat)(h:n≤4611686018427387904):plainElem (H:=Unit) prog 3 (.int .i64 ((n:Int)+1))=some (nI (n+1),[]):=
 plainElem_int underlying3 (WalkArith.wf_i64 ⟨by omega,by omega⟩)
def zdc(r:YX)(code:Int)(w:World)(e:Ending)(w':World):Prop:=∃u,e=.returned (.tuple #[u,.int .i64 code])∧w'.ownsRow w.heap.size 9 1 u r.length (z03 r)∧Fr [] w w'
def PredN(g:Nat)(lb:Array Value)(p:Nat→Bool→Bool)(B:Nat)(w:World):Prop:=
 ∀W (n:Nat) (b:Bool),FrB [] B w W→Calls prog g (#[.int .i64 n,.bool b]++lb) W fun e w'=>e=.returned (.bool (p n b))∧Fr [] W w'
theorem za8(g:Nat)(lb:Array Value)(eg:∀args w,(callFunc g args).run prog w=.ok (.enter g args) w)(p:Nat→Bool→Bool)(l:List Itm)(v:Value)(w:World)(B:Nat)(hp:PredN g lb p w.heap.size w)
  (hs:∀x∈l,x.Small) (hl:l.length≤1048576) (hB:B≤w.heap.size) (h:z58 w B v l):
  Calls prog 270 #[v,.func (Fn.func g) #[] lb] w (zdc (z2x p l) (z13 l) w):=by
 obtain⟨i0,hi,hz0,hz1,hz2⟩:=info_parts z2y;obtain⟨A,c,rfl⟩:=h.form;by_cases h0:l.length=0
 ·have E1:z13 l=1:=Xf h0;have E2:z2x p l=[]:=by unfold z2x;rw[E1,Xc (by decide)]
  rw[E1,E2];clear E1 E2 hp;rw[h0];go_enter func270,ntmps270;go_wp2;go_ret2;exact⟨_,rfl,World.ownsRow_nil _ _ _ _,Fr.refl _ _⟩
 ·have HV:=hid h;have HP:=hid hp;have HS:=hid hs;have HC:=hid (show z13 l=z39 3 l from Xc h0);have a8:0 < l.length:=by omega
  clear h hp hs;have q0:((l.length:Int)==0)=false:=by simpa using h0
  have bl:=@run_makeMap prog;clear h0;go_enter func270,ntmps270;go_wp2;go_loopg [21] l.length (fun g i wr=>∃(k:Nat) (D:DataW Unit),g=l.length - k∧k≤l.length∧i=.int .i64 k∧(∀x∈l.take k,z02 3 x=0)∧OwnM wr w.heap.size (zcy (l.take k)).length D∧Cnt D (zcy (l.take k))∧Fr [] w wr)
  case atStart=>exact⟨0,.map [],rfl,Xt _,rfl,fun x K=>by simp at K,World.ownsMap_made _ _ _ _,Cnt.start,(Fr.refl _ _).alloc _⟩
  case round=>
   obtain⟨k,D,rfl,M,rfl,ah,hm,G,S⟩:=hrel;have L:=hid S;have HM:=hid hm;have HN:=hid G;have N:=hid ah;clear S hm G ah;obtain⟨b,off,rfl,hb,hc,bj,f⟩:=HV.o.at_ a8;have HA:=hid f;clear f;by_cases hlt:k < l.length
   ·obtain⟨x,K⟩:∃x,l[k]? = some x:=⟨_,Xa hlt⟩;obtain⟨A1,A2,A3,c1,c2,c3,h5⟩:=HA.o k x K;have ap:=HS.o x (Xj K);have O:=hid (h5.fr L.o hb hB (by simp));have a0:=O.o.k0;have a1:=O.o.k1;have a2:=O.o.k2;have a3:=O.o.k3;have a4:=O.o.k4;have F1:=hid ((Fr.refl [] wr).alloc (.cells (yIa x A1 c1 A2 c2 A3 c3) 68));have W1:=hid (Whole.new wr 68 (yIl x A1 c1 A2 c2 A3 c3));have RD:=hid (fun W (hW:Fr [] wr W)=>z9f x (.agg (yIa x A1 c1 A2 c2 A3 c3)) W B ap (Xd hB (Xd L.o.size hW.size)) (O.o.item.fr hW (Xd hB L.o.size) (by simp)));have HX:=hid K;clear K ap;by_cases ha:z02 3 x=0
    ·rw[ha] at RD;have X1:=hid h5.s1;have b9:=(zih ha).2;have TX:=hid ((z1m ha).texts)
     have bk:(zcy (l.take k)).length≤24 * l.length:=by
      have h1:=zh3 N.o;have h2:(l.take k).length≤l.length:=by rw[Xp];omega
      omega
     have b5:=hid (q4m N.o HX.o ha);have ET:=hid (zg6 HX.o);generalize zcy (l.take k)=z at *;clear O h5;obtain⟨m,rfl⟩:∃m,m=wr:=⟨_,rfl⟩;go_wp2_with fail;refine(RD.o _ F1.o).mono ?_;rintro e w1 ⟨rfl,f1⟩;have T:=hid (F1.o.trans f1);have W2:=hid (W1.o.fr f1 (by simp));clear f1 a0 a1 a2 a3 a4;obtain⟨a0,a1,a2,a3,a4⟩:=five W2.o;go_wp2;go_loopg [33] x.list.length (fun g j wi=>∃(q:Nat) (D':DataW Unit),g=x.list.length - q∧q≤x.list.length∧j=.int .i64 q∧OwnM wi w.heap.size (z++x.list.take q).length D'∧Cnt D' (z++x.list.take q)∧Fr [] w wi)
     case atStart=>exact⟨0,D,rfl,Xt _,rfl,by rw[Jd,Ub];exact HM.o.kept T.o.grown0 (by simp),by rw[Jd,Ub];exact HN.o,L.o.trans T.o⟩
     case round=>
      obtain⟨q,D',rfl,hq,rfl,hm,G,S⟩:=hrel;have F:=hid S;have a5:=hid hm;have R:=hid G;clear S hm G;have af:(z++x.list.take q).length≤24 * l.length+24:=by rw[Xk,Xp];omega
      by_cases C:q < x.list.length
      ·obtain⟨s,hs⟩:∃s,x.list[q]? = some s:=⟨_,Xa C⟩;obtain⟨b1,o1,rfl,bm,bd,bc,H⟩:=X1.o.at_ (by omega);have cc:=F.o.cell (show w.cell? ⟨b1,o1+q,none⟩=some (.string s) from H q _ (z0x _ q s hs)) (by simp);have ba:=TX.o s (Xj hs);have hn:=q2i (z++x.list.take q) s;have EA:=hid (R.o.at_ s);have NX:=hid (R.o.put s);have ES:=hid (show z++x.list.take (q+1)=(z++x.list.take q)++[s] from by rw[Xz,hs,←Yi];rfl);clear H hs;generalize zqe (z++x.list.take q) s=n at *;rw[←ES.o] at NX;have EL:=hid (show(z++x.list.take (q+1)).length=(z++x.list.take q).length+1 from by rw[ES.o,Xk];rfl);clear ES;generalize hU:z++x.list.take q=U at *;generalize hU2:z++x.list.take (q+1)=U2 at *
       go_wp2_with (first
        | (at_lookup;go_loud (refine wpList_lookup_own_int _ rfl _ _ 217 rfl 9 3 .i64 lawT underlying217 underlying3 (zeroT _) w.heap.size _ D' rfl a5.o _ _ rfl (keyT s (by omega)) ?_;intro c f b6;obtain rfl:=ztd (EA.o.symm.trans f);clear f b6))
        | (at_mapUpdate;go_loud (refine wpList_mapUpdate_own _ rfl _ _ _ 217 rfl 9 3 lawT underlying217 _ w.heap.size _ D' rfl a5.o (by unfold maxLen;omega) _ _ _ rfl rfl (keyT s (by omega)) (nI (n+1)) [] (elemN n (by omega)) ?_;intro w2 ad Y))
        | go_in)
       go_roundg (x.list.length - (q+1))
       case measure=>omega
       case rel=>exact⟨q+1,_,rfl,by omega,by go_num,by rw[hU2,EL.o];exact ad,by rw[hU2];exact NX.o,F.o.grown Y (fun j hj=>by cases hj;exact .inr (Xb _))⟩
      ·obtain rfl:q=x.list.length:=by omega
       rw[Ym,←ET.o] at a5 R;clear ET af;go_wp2;go_roundg (l.length - (k+1))
       case measure=>omega
       case rel=>exact⟨k+1,D',rfl,by omega,by go_num,b5.o,a5.o,R.o,F.o⟩
    ·have E1:=hid (HC.o.trans (zcj N.o HX.o ha));have E2:=hid (show z2x p l=[] from by unfold z2x;rw[E1.o,Xc ha]);have q1:(z02 3 x != 0)=true:=by simpa using ha
     rw[E1.o,E2.o];clear E1 E2 ha HC;generalize z02 3 x=r at *;go_wp2_with fail;refine(RD.o _ F1.o).mono ?_;rintro e w1 ⟨rfl,f1⟩;go_wp2;go_ret2;exact⟨_,rfl,World.ownsRow_nil _ _ _ _,L.o.trans (F1.o.trans f1)⟩
   ·obtain rfl:k=l.length:=by omega
    rw[Ym] at N HM HN;have EC:=hid (HC.o.trans (zar N.o));have ER:=hid (show z2x p l=z9u ((zcy l).filter (pick p l)) from by unfold z2x;rw[Xf EC.o]);have bf:=zh3 N.o;have CN:=hid (zjc (l:=l) (fun x K=>(zih (N.o x K)).1));obtain⟨x0,t⟩:∃x,l[0]? = some x:=⟨_,Xa a8⟩;obtain⟨A1,A2,A3,c1,c2,c3,h5⟩:=HA.o 0 x0 t;rw[Jv,Ye] at h5;have H5:=hid h5;have am:=(zih (N.o x0 (Xj t))).1;have P:=(HS.o x0 (Xj t)).list
    have EF:=hid (show q1k l=x0.list from by cases l with
     | nil=>simp at t
     | cons y l=>simp at t;subst t;rfl)
    have EP:=hid (show ∀s,pick p l s=p (q63 l s) (z7m x0.list s) from fun s=>by unfold pick;rw[EF.o])
    have TS:=hid (show ∀s∈zcy l,s.size≤60 from fun s hs=>by
     obtain⟨x,K,b8⟩:=List.mem_flatMap.1 hs;exact(z1m (N.o x K)).texts s b8)
    have ax:=hid am;clear t h5 am HC EF N;generalize zcy l=z at *;generalize pick p l=pk at *;generalize q63 l=hn at *;obtain⟨m,rfl⟩:∃m,m=wr:=⟨_,rfl⟩;have b3:=HM.o.lt
    go_wp2_with (first
     | (at_range;refine wpList_range_own _ rfl _ 217 rfl 9 3 lawT underlying217 _ w.heap.size _ D rfl HM.o ?_;intro w0 av b2 b4)
     | go_in)
    go_frame
    have F0:=hid (L.o.grown b2 (fun k M=>by cases M));have al:m.heap.size < w0.heap.size:=by omega
    clear b4;go_loopg [12] (Maps.size D) (fun g v wi=>∃(J:Lit→Bool) (d:YX),RanM wi w.heap.size m.heap.size z.length D J g∧wi.ownsRow m.heap.size 9 1 v d.length (z03 d)∧Coll z pk J d∧Fr [] w wi∧m.heap.size < wi.heap.size)
    case atStart=>exact⟨_,[],av,World.ownsRow_nil _ _ _ _,Coll.start HN.o,F0.o,al⟩
    case round=>
     obtain⟨J,d,aq,ho,ac,S,hz⟩:=hrel;have F:=hid S;have X:=hid ho;have ae:=hid ac;have bh:=ac.le;have bg:=S.size;clear S ac;obtain⟨Ad,cd,rfl,-⟩:=z05 ho;clear ho
     go_wp2_with (first
      | (at_next;refine wpList_next_ranges _ rfl _ rfl 9 lawT (plainElem prog 3) Value.string (Value.int .i64) zzj zu8 w.heap.size m.heap.size _ _ _ _ rfl aq ?_ ?_)
      | go_in)
     ·intro bi P;have ED:=hid (ae.o.done P);clear P;go_wp2_with fail;refine(zlg d m.heap.size _ _ (by omega) X.o).mono ?_;rintro e w1 ⟨rfl,an,g1⟩;have b0:=hid an;have G1:=hid g1;have LO:=hid (fun k M=>X.o.lt k M);clear an g1;go_wp2;go_ret2;rw[EC.o,ER.o,←ED.o];exact⟨_,rfl,z0i (by rw[z48];exact b0.o) L.o.size,F.o.grown G1.o (fun k M=>.inr (by have:=(LO.o k M).1;have:=L.o.size;omega))⟩
     ·intro x c' kl yd yp w2 a9 ab ag hv f a6 C ar az au;obtain rfl:kl=kS x:=zzk ab
      have b7:c'=(hn x:Int):=by
       obtain⟨be,ec,hy,_⟩:=plainElem_int_inv underlying3 hv;cases ec;have h1:=f (nI 0);have h2:=HN.o.at_ x;rw[h1] at h2;rw[←CN.o x];refine ztd ?_;rw[←h2];exact congrArg Prod.fst hy
      subst b7
      have V:x∈z:=by
       have h1:=HN.o.has x;rw[Maps.has_true_of_atKey f] at h1;exact z3f.1 h1.symm
      have bb:=TS.o x V;have HL:=hid ag;have T:=hid (F.o.grown ar (fun k M=>by cases M;exact .inr L.o.size));have ak:=hid (X.o.kept ar (Or.inr (row_ne_iter X.o aq).symm));have O:=hid (H5.o.fr T.o hb hB (by simp));have a2:=O.o.k2;have HH:=hid (fun W (hW:Fr [] w2 W)=>zgt x0.list x A1 c1 B W ax.o P (Xd hB (Xd T.o.size hW.size)) (O.o.s1.fr hW (Xd hB T.o.size) (by simp)));have ai:=hid (EP.o x);have Z:=hid (fun W (hW:Fr [] w2 W)=>HP.o W (hn x) (z7m x0.list x) ((T.o.trans hW).toB _));have aa:m.heap.size < w2.heap.size:=by omega
      clear az ab hv f ag;by_cases hpk:pk x=true
      ·have q1:=ai.o.symm.trans hpk;rw[q1] at Z;have CT:=hid (ae.o.take V HL.o hpk);clear q1 hpk V;go_wp2_with fail;refine(HH.o _ (Fr.refl _ _)).mono ?_;rintro e w3 ⟨rfl,f3⟩;have F3:=hid f3;clear f3;go_wp2_with fail;refine(Z.o _ F3.o).mono ?_;rintro e w4 ⟨rfl,f4⟩;have Q:=hid (F3.o.trans f4);have E:=hid (z08 ak.o Q.o (by simp));have R4:=hid (a6.kept Q.o.grown0 (by simp) (by simp));have a7:m.heap.size < w4.heap.size:=Yx aa Q.o.size;clear f4 au;go_wp2_with (at_builtin;refine wpList_append_own_at _ rfl _ _ 24 rfl m.heap.size 9 i0 _ 1 16 underlying24 hi hz0 hz1 hz2 rfl (by decide) _ _ _ rfl (E.o.alloc _) ⟨w4.heap.size,0,none⟩ 1 1 [.string x] rfl rfl ?c1a ?c2a ?c3a ?c4a ?c5a ?_)
       case c1a=>exact cell_one_new _ _ _
       case c2a=>intro u hu;simp at hu;subst hu;rfl
       case c3a=>unfold maxLen;omega
       case c4a=>omega
       case c5a=>simp;omega
       intro va w5 I a _ aj;have ay:=hid I;have aw:=hid (((T.o.trans Q.o).alloc (.cells #[.string x] 9)).grown a (fun k M=>.inr (by have:=(E.o.lt k M).1;have:=L.o.size;omega)));have R5:=hid ((R4.o.alloc (.cells #[.string x] 9)).kept a (row_ne_low E.o b3) (row_ne_iter E.o R4.o));have ao:m.heap.size < w5.heap.size:=Yx (by simp;omega) a.size;clear I a aj;go_wp2;go_roundg a9
       case measure=>exact C
       case rel=>exact⟨_,d++[x],R5.o,by rw[z36,Xk];simpa[z03] using ay.o,CT.o,aw.o,ao⟩
      ·have q1:=ai.o.symm.trans (show pk x=false by simpa using hpk);rw[q1] at Z;have CT:=hid (ae.o.leave (x:=x) (show pk x=false by simpa using hpk));clear q1 hpk V;go_wp2_with fail;refine(HH.o _ (Fr.refl _ _)).mono ?_;rintro e w3 ⟨rfl,f3⟩;have F3:=hid f3;clear f3;go_wp2_with fail;refine(Z.o _ F3.o).mono ?_;rintro e w4 ⟨rfl,f4⟩;have Q:=hid (F3.o.trans f4);have E:=hid (z08 ak.o Q.o (by simp));have R4:=hid (a6.kept Q.o.grown0 (by simp) (by simp));have a7:m.heap.size < w4.heap.size:=Yx aa Q.o.size;clear f4 au;go_wp2;go_roundg a9
       case measure=>exact C
       case rel=>exact⟨_,d,R4.o,E.o,CT.o,T.o.trans Q.o,a7⟩
end
end Go.Proofs.YtnmoajaelmimnaaGreatDoor
