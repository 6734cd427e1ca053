/- Contracts; no condition but each theorem's own. -/
import Derived.Test.YtnmoajaelmimnaaGreatDoorSlY2
import Derived.Test.YtnmoajaelmimnaaGreatDoorSlY3
import Derived.Deep.DrawnRows
import Derived.Deep.RegionLaw
import Derived.Defers
import Derived.Laws.BitsAllLaws
import Derived.Laws.BitsLemmas
import Derived.Laws.Externs
import Derived.Laws.ResultCell
import Derived.Lib.AppendStr
import Derived.Lib.Builder
import Derived.Lib.ConvBytes
import Derived.Lib.Strings
import Derived.Lib.UnsafeStr
import Derived.Recover
set_option linter.unusedVariables false
set_option linter.unusedSimpArgs false
set_option maxHeartbeats 8000000
set_option maxRecDepth 100000
namespace Go.Proofs.YtnmoajaelmimnaaGreatDoor
open Go.Proofs.Tryz
section
open Go.RowKit
attribute [local go_sem] z1g
def z4c(w:World)(pb:Nat)(p:YY)(k:Nat)(e:Ending)(w':World):Prop:=
 match z3k p k with
 | some x=>∃a f:Value,e=.returned (.agg #[a,f])∧z5v w' w.heap.size w'.heap.size x.1 a f∧PSt w' pb p x.2∧Fr [pb] w w'
 | none=>e=.panicked [{ v:=zfn,recovered:=false }]∧Fr [pb] w w'
theorem partAt_cls'{p:YY}{a:Nat}(h:a < p.size)(h91:z04 p a=91):z3k p a =
  (match cls p (if z4t p (a+1+0) 94 then a+1+1 else a+1) with
    | none=>none
    | some y=>if y.1.isEmpty then none else some (Part.cls (z4t p (a+1+0) 94) y.1,y.2+1)):=by
 unfold z3k z4t;rw[Xf h,Xc (by omega),Xc (by omega),Xf h91];simp only[Bool.decide_and,Ye];rfl
theorem Whole.two{w:World}{g:Nat}{t:TypeId}{a b:Value}(h:Whole w g t [a,b]):
  w.cell? ⟨g,0,none⟩=some a∧w.cell? ⟨g,1,none⟩=some b∧w.frozen? ⟨g,0,none⟩=false∧w.frozen? ⟨g,1,none⟩=false:=⟨h.cell 0,h.cell 1,h.frozen 0,h.frozen 1⟩
theorem z8w{w w1:World}{pb:Nat}{p:YY}{k k':Nat}{P:Part}{a f:Value}(E:z3k p k=some (P,k'))(hpi:z5v w1 w.heap.size w1.heap.size P a f)(hp:PSt w1 pb p k')(hf:Fr [pb] w w1):
  z4c w pb p k (.returned (.agg #[a,f])) w1:=by
 unfold z4c;rw[E];exact⟨a,f,rfl,hpi,hp,hf⟩
theorem zw6{w w1:World}{pb:Nat}{p:YY}{k:Nat}(E:z3k p k=none)(hf:Fr [pb] w w1):
  z4c w pb p k (.panicked [{ v:=zfn,recovered:=false }]) w1:=by
 unfold z4c;rw[E];exact⟨rfl,hf⟩
theorem zw7(p:YY)(pb k:Nat)(w)(hs:p.size≤281474976710656)(h:PSt w pb p k)(hk:k < p.size)(h42:z04 p k=42):
  Calls prog 343 #[.pointer (some ⟨pb,0,none⟩)] w (z4c w pb p k):=by
 have l:=h.lt;have s:=z0t p k;have H:=hid h;clear h;have m:((z04 p k:Int)==42)=true:=by simp;omega
 have E:=hid (show z3k p k=some (.star,k+1) by unfold z3k;rw[Xf hk,Xf h42]);clear h42;go_enter func343,ntmps343;go_wp2_with fail;refine(z8u p pb k _ hs (H.o.alloc _) hk).mono ?_;rintro e j ⟨rfl,d,a⟩;have b:=(Whole.new w 318 [.bool false,.nilFunc]).fr a (by simp;omega);have f:=hid (((Fr.refl [pb] w).alloc _).trans a);have g:w.heap.size < j.heap.size:=b.lt;clear a;obtain⟨n,r,u,t⟩:=b.two;go_wp2;refine Xg (v:=.agg #[.bool true,.nilFunc]) (by simp[results,results343,go_sem,n,r]) rfl ?_;exact z8w E.o ⟨rfl,rfl⟩ ((d.far (by simp;omega) _).far (by simp;omega) _) ((f.o.setCell (.inr (by simp)) _).setCell (.inr (by simp)) _)
theorem q6k(p:YY)(pb k:Nat)(w)(hs:p.size≤281474976710656)(h:PSt w pb p k)(hk:k < p.size)(h63:z04 p k=63):
  Calls prog 343 #[.pointer (some ⟨pb,0,none⟩)] w (z4c w pb p k):=by
 have l:=h.lt;have t:=z0t p k;have H:=hid h;clear h;have n:((z04 p k:Int)==42)=false:=by simp;omega
 have m:((z04 p k:Int)==63)=true:=by simp;omega
 have E:=hid (show z3k p k=some (.any,k+1) by unfold z3k;rw[Xf hk,Xc (by omega),Xf h63]);clear h63;go_enter func343,ntmps343;go_wp2_with fail;refine(z8u p pb k _ hs (H.o.alloc _) hk).mono ?_;rintro e j ⟨rfl,d,a⟩;have b:=(Whole.new w 318 [.bool false,.nilFunc]).fr a (by simp;omega);have f:=hid (((Fr.refl [pb] w).alloc _).trans a);have g:w.heap.size < j.heap.size:=b.lt;clear a;obtain⟨s,r,x,u⟩:=b.two;go_wp2;refine Xg (v:=.agg #[.bool false,.func (.func 358) #[] #[]]) (by simp[results,results343,go_sem,s,r]) rfl ?_;exact z8w E.o ⟨rfl,rfl⟩ ((d.far (by simp;omega) _).far (by simp;omega) _) ((f.o.setCell (.inr (by simp)) _).setCell (.inr (by simp)) _)
theorem q48(p:YY)(pb k:Nat)(w)(hs:p.size≤281474976710656)(h:PSt w pb p k)(hk:k < p.size)(h91:z04 p k=91):
  Calls prog 343 #[.pointer (some ⟨pb,0,none⟩)] w (z4c w pb p k):=by
 have Q:=h.lt;have Y:=z0t p k;have H:=hid h;clear h;have S:((z04 p k:Int)==42)=false:=by simp;omega
 have T:((z04 p k:Int)==63)=false:=by simp;omega
 have P:((z04 p k:Int)==91)=true:=by simp;omega
 have I:=partAt_cls' hk h91;have E:=hid I;clear h91 I;go_enter func343,ntmps343;go_wp2_with fail;refine(z8u p pb k _ hs (H.o.alloc _) hk).mono ?_;rintro e F ⟨rfl,s,l⟩;have m:=(Whole.new w 318 [.bool false,.nilFunc]).fr l (by simp;omega);have r:=hid (((Fr.refl [pb] w).alloc _).trans l);have J:w.heap.size < F.heap.size:=m.lt;clear l;go_wp2_with fail;refine(ztb p pb (k+1) _ _ _ hs s (by omega) rfl rfl).mono ?_;rintro e N a;unfold zsh at a;rcases a with⟨x,f,L,n,rfl,t,C,j⟩|⟨hno,rfl,j⟩
 ·have d:z3k p k=some (.cls (z4t p (k+1+0) 94) x.1,x.2+1):=by
   rw[E.o,L];simp only;rw[Xc (by simpa using n)]
  have z:=hid d;have D:=m.fr j (by simp;omega);have A:=hid (r.o.trans j);obtain⟨V,W,z0,Z⟩:=D.two;obtain⟨O,b,K,U,R,y,B,rfl,G,M⟩:=t;have u:=hid (show z5v N F.heap.size N.heap.size (.cls (z4t p (k+1+0) 94) x.1) (.bool false) _ from⟨rfl,b,K,U,R,y,B,rfl,G,M⟩);clear d L n j G M;go_wp2;refine Xg (v:=.agg #[.bool false,.func (.func 367) #[] #[.pointer (some ⟨b,0,none⟩),.pointer (some ⟨K,0,none⟩)]]) (by simp[results,results343,go_sem,V,W]) rfl ?_;exact z8w z.o (u.o.keep (fun g _ _ X _ _ _=>by
  rw[Below.heap_setCell _ _ _ _ (by simp;omega),Below.heap_setCell _ _ _ _ (by simp;omega)]) (by omega) (by simp[World.setCell]))
    ((C.far (by simp;omega) _).far (by simp;omega) _) ((A.o.setCell (.inr (by simp)) _).setCell (.inr (by simp)) _)
 ·have d:z3k p k=none:=by
   rw[E.o];cases hc:cls p (if z4t p (k+1+0) 94 then k+1+1 else k+1) with
   | none=>rfl
   | some x=>simp only;rw[Xf (by simpa using hno x hc)]
  have z:=hid d;clear d hno;go_wp2;exact⟨rfl,zw6 z.o (r.o.trans j)⟩
theorem q49(p:YY)(pb k:Nat)(w)(hs:p.size≤281474976710656)(h:PSt w pb p k)(hk:k < p.size)(h92:z04 p k=92):
  Calls prog 343 #[.pointer (some ⟨pb,0,none⟩)] w (z4c w pb p k):=by
 have M:=h.lt;have X:=z0t p k;have H:=hid h;clear h;have P:((z04 p k:Int)==42)=false:=by simp;omega
 have Q:((z04 p k:Int)==63)=false:=by simp;omega
 have L:((z04 p k:Int)==91)=false:=by simp;omega
 have R:((z04 p k:Int)==92)=true:=by simp;omega
 have r:z3k p k=if k+1 < p.size then some (.lit (z04 p (k+1)),k+2) else none:=by
  unfold z3k;rw[Xf hk,Xc (by omega),Xc (by omega),Xc (by omega),Xf h92]
 by_cases h2:k+1 < p.size;have j:=hid trivial
 all_goals
  first
  | (guard_hyp j
     rw[Xf h2] at r;have E:=hid r;have V:=z0t p (k+1))
  | (rw[Xc h2] at r
     have E:=hid r)
  clear r h92;go_enter func343,ntmps343;go_wp2_with fail;refine(z8u p pb k _ hs (H.o.alloc _) hk).mono ?_;rintro e N ⟨rfl,m,n⟩;have l:=(Whole.new w 318 [.bool false,.nilFunc]).fr n (by simp;omega);have s:=hid (((Fr.refl [pb] w).alloc _).trans n);have I:w.heap.size < N.heap.size:=l.lt;clear n;go_wp2_with fail
  first
  | (guard_hyp j
     refine(z8u p pb (k+1) _ hs m h2).mono ?_;rintro e D ⟨rfl,y,a⟩;have t:=l.fr a (by simp;omega);have z:=hid (s.o.trans a);have J:w.heap.size < D.heap.size:=t.lt;clear a l m;go_wp2_with fail;refine(zgk _ _).mono ?_;rintro e F ⟨⟨f,rfl,u⟩,d⟩;have C:=t.fr d (by simp);have A:=hid (z.o.trans d.up);have B:=hid (Whole.fr y d (by simp));obtain⟨T,U,Z,Y⟩:=C.two;obtain⟨K,b,S,O,rfl,G⟩:=u;have x:=hid (show z5v F D.heap.size F.heap.size (.lit (z04 p (k+1))) (.bool false) _ from⟨rfl,b,S,O,rfl,G⟩);clear d G;go_wp2;refine Xg (v:=.agg #[.bool false,.func (.func 368) #[] #[.pointer (some ⟨b,0,none⟩)]]) (by simp[results,results343,go_sem,T,U]) rfl ?_
     exact z8w E.o (x.o.keep (fun g _ _ W _ _ _=>by
      rw[Below.heap_setCell _ _ _ _ (by simp;omega),Below.heap_setCell _ _ _ _ (by simp;omega)]) (by omega) (by simp[World.setCell]))
       ((PSt.far B.o (by simp;omega) _).far (by simp;omega) _) ((A.o.setCell (.inr (by simp)) _).setCell (.inr (by simp)) _))
  | (refine(zph p pb (k+1) _ hs m (by omega)).mono ?_
     rintro e D ⟨rfl,a⟩;go_wp2;exact⟨rfl,zw6 E.o (s.o.trans a)⟩)
theorem q0e(p:YY)(pb k:Nat)(w)(hs:p.size≤281474976710656)(h:PSt w pb p k)(hk:k < p.size)(h42:z04 p k≠42)(h63:z04 p k≠63)(h91:z04 p k≠91)(h92:z04 p k≠92):
  Calls prog 343 #[.pointer (some ⟨pb,0,none⟩)] w (z4c w pb p k):=by
 have D:=h.lt;have O:=z0t p k;have H:=hid h;clear h;have G:((z04 p k:Int)==42)=false:=by simp;omega
 have I:((z04 p k:Int)==63)=false:=by simp;omega
 have C:((z04 p k:Int)==91)=false:=by simp;omega
 have J:((z04 p k:Int)==92)=false:=by simp;omega
 have E:=hid (show z3k p k=some (.lit (z04 p k),k+1) by
  unfold z3k;rw[Xf hk,Xc h42,Xc h63,Xc h91,Xc h92])
 clear h42 h63 h91 h92;go_enter func343,ntmps343;go_wp2_with fail;refine(z8u p pb k _ hs (H.o.alloc _) hk).mono ?_;rintro e x ⟨rfl,l,d⟩;have j:=(Whole.new w 318 [.bool false,.nilFunc]).fr d (by simp;omega);have u:=hid (((Fr.refl [pb] w).alloc _).trans d);have A:w.heap.size < x.heap.size:=j.lt;clear d;go_wp2_with fail;refine(zgk _ _).mono ?_;rintro e y ⟨⟨f,rfl,m⟩,a⟩;have t:=j.fr a (by simp);have r:=hid (u.o.trans a.up);have s:=hid (Whole.fr l a (by simp));obtain⟨L,M,Q,P⟩:=t.two;obtain⟨B,b,K,F,rfl,z⟩:=m;have n:=hid (show z5v y x.heap.size y.heap.size (.lit (z04 p k)) (.bool false) _ from⟨rfl,b,K,F,rfl,z⟩);clear a z;go_wp2;refine Xg (v:=.agg #[.bool false,.func (.func 368) #[] #[.pointer (some ⟨b,0,none⟩)]]) (by simp[results,results343,go_sem,L,M]) rfl ?_
 exact z8w E.o (n.o.keep (fun g _ _ N _ _ _=>by
  rw[Below.heap_setCell _ _ _ _ (by simp;omega),Below.heap_setCell _ _ _ _ (by simp;omega)]) (by omega) (by simp[World.setCell]))
   ((PSt.far s.o (by simp;omega) _).far (by simp;omega) _) ((r.o.setCell (.inr (by simp)) _).setCell (.inr (by simp)) _)
theorem q0d(p:YY)(pb k:Nat)(w)(hs:p.size≤281474976710656)(h:PSt w pb p k)(hk:k < p.size):
  Calls prog 343 #[.pointer (some ⟨pb,0,none⟩)] w (z4c w pb p k):=by
 by_cases h42:z04 p k=42
 ·exact zw7 p pb k w hs h hk h42
 ·by_cases h63:z04 p k=63
  ·exact q6k p pb k w hs h hk h63
  ·by_cases h91:z04 p k=91
   ·exact q48 p pb k w hs h hk h91
   ·by_cases h92:z04 p k=92
    ·exact q49 p pb k w hs h hk h92
    ·exact q0e p pb k w hs h hk h42 h63 h91 h92
theorem zuc(w)(k:Nat)(os:Array Obj):Fr [] w (Sort.grow (w.drewN k) os):=
 ⟨rfl,rfl,rfl,by show w.heap.size≤(w.heap++os).size;simp,fun j hj _=>by
  show(w.heap++os)[j]? = w.heap[j]?;rw[Array.getElem?_append_left hj]⟩
theorem zp2(w)(e:TypeId)(s):Fr [] w (Lib.bytesWorld w e s):=by
 unfold Lib.bytesWorld;refine⟨rfl,rfl,rfl,by simp[World.freeze],fun j d _=>?_⟩;have b:(w.drew.alloc (.cells (Lib.bytesCells w e s) e)).heap[j]? = w.heap[j]? := Below.heap_alloc w.drew _ j d;have a:w.heap.size≠j:=by omega
 simpa[World.freeze,Jg,a] using b
structure Vars(w:World):Prop where
 tab:Lib.TabIs prog w "internal/strconv.uint64pow10" .u64 Lib.pow10Tab
 syn:∃tp p,w.var? prog "strconv.ErrSyntax" = some #[.iface tp p]
 rng:∃tp p,w.var? prog "strconv.ErrRange" = some #[.iface tp p]
theorem zx9{P:Program}{w w':World}{n:String}{cs:Array Value}(h:w.var? P n=some cs)(hf:Fr [] w w'):w'.var? P n=some cs:=by
 unfold World.var? at h ⊢;cases hg:P.globalNamed n with
 | none=>rw[hg] at h;cases h
 | some g=>
  rw[hg] at h;simp only[Yn] at h ⊢;cases hb:w.heap[g]? with
  | none=>rw[hb] at h;cases h
  | some o=>
   have a:g < w.heap.size:=(Uv.1 hb).1;rw[hf.block g a (by simp),hb];rw[hb] at h;exact h
theorem Vars.fr{w w':World}(h:Vars w)(hf:Fr [] w w'):Vars w':=
 ⟨zx9 h.tab hf,h.syn.imp fun _ ⟨p,hp⟩=>⟨p,zx9 hp hf⟩,h.rng.imp fun _ ⟨p,hp⟩=>⟨p,zx9 hp hf⟩⟩
def Tab(w:World):Prop:=Lib.TabIs prog w "internal/strconv.uint64pow10" .u64 Lib.pow10Tab
theorem q64(n:Int)(w)(hv:Tab w)(h:-9223372036854775808≤n∧n≤9223372036854775807):
  Calls prog 115 #[.int .i64 n] w fun e w'=>e=.returned (.string ⟨(Lib.itoa n).toArray⟩)∧Fr [] w w':=
 (Tryz.strconv_Itoa n h.1 h.2 w hv).mono fun e w' ⟨he,k,os,hw⟩=>⟨he,by rw[hw];exact zuc w k os⟩
theorem zp9(n:Int)(w)(hv:Vars w)(h:-9223372036854775808≤n∧n≤9223372036854775807):
  Calls prog 115 #[.int .i64 n] w fun e w'=>e=.returned (.string ⟨(Lib.itoa n).toArray⟩)∧Fr [] w w':=
 (Tryz.strconv_Itoa n h.1 h.2 w hv.tab).mono fun e w' ⟨he,k,os,hw⟩=>⟨he,by rw[hw];exact zuc w k os⟩
def zxk(s:YY)(w:World)(e:Ending)(w':World):Prop:=∃(n:Int) (v:Value),e=.returned (.tuple #[.int .i64 n,v])∧(-9223372036854775808≤n∧n≤9223372036854775807) ∧
 ((v=.nilIface∧Lib.atoiAll s.data.toList=.ok n)∨((∃t N,v=.iface t (.pointer (some ⟨N,0,none⟩)))∧z5l s.data.toList=none))∧Fr [] w w'
theorem zm3{l:List UInt8}{v:Int}(h:Lib.atoiAll l=.ok v):-9223372036854775808≤v∧v≤9223372036854775807:=by
 unfold Lib.atoiAll at h;split at h
 ·cases h
 ·simp only at h;split at h
  ·cases h
  ·cases h
  ·split at h
   ·cases h
   ·rename_i h1;split at h
    ·cases h
    ·rename_i h2;injection h with h
     subst h;split <;> omega
theorem zxu(s:YY)(w)(hv:Vars w)(hs:s.size≤281474976710656):
  Calls prog 114 #[.string s] w (zxk s w):=by
 rcases h:Lib.atoiAll s.data.toList with v|_|_
 ·refine(Tryz.strconv_Atoi_ok s (by omega) v h w).mono fun e w' ⟨he,hw⟩=>⟨v,_,he,zm3 h,.inl ⟨rfl,h⟩,?_⟩;rcases hw with rfl|⟨t,rfl⟩
  ·exact Fr.refl [] _
  ·exact zp2 _ _ _
 ·obtain⟨b,p,a⟩:=hv.syn;exact(Tryz.strconv_Atoi_syntax_var s hs h b p w a).mono fun e w' ⟨N,he,_,_,hb⟩=>⟨0,_,he,by decide,.inr ⟨⟨_,N,rfl⟩,zp8 (fun v=>by rw[h];exact fun e=>by cases e)⟩,Fr.of_below hb⟩
 ·obtain⟨b,p,a⟩:=hv.rng;refine(Tryz.strconv_Atoi_range_var s hs h b p w a).mono fun e w' ⟨N,he,_,_,hb⟩=>⟨_,_,he,?_,.inr ⟨⟨_,N,rfl⟩,zp8 (fun v=>by rw[h];exact fun e=>by cases e)⟩,Fr.of_below hb⟩;unfold Lib.atoiSat;split <;> decide
def zix(s:YY)(w:World)(e:Ending)(w':World):Prop:=∃n:Int,e=.returned (.tuple #[.int .i64 n,.bool (z5l s.data.toList).isSome])∧(-9223372036854775808≤n∧n≤9223372036854775807)∧(∀v,z5l s.data.toList=some v→n=v)∧Fr [] w w'
theorem zac(s:YY)(w)(hv:Vars w)(hs:s.size≤281474976710656):
  Calls prog 69 #[.string s] w (zix s w):=by
 have A:=hid (zxu s w hv hs);have B:=hid hv;clear hv;go_enter func69,ntmps69;go_wp2_with fail;refine A.o.mono ?_;rintro e y ⟨n,v,rfl,f,D,l⟩;have m:=hid (fun(W:World) (hW:Fr [] y W)=>zp9 n W (B.o.fr (l.trans hW)) f);have u:=hid (fun(W:World)=>z7p n W);have j:=hid l;clear l;rcases D with⟨rfl,p⟩|⟨⟨t,N,rfl⟩,hno⟩
 ·have d:=zus p;have g:=eqB ⟨(Lib.itoa n).toArray⟩ s;by_cases h1:Lib.itoa n=s.data.toList
  ·have x:(⟨(Lib.itoa n).toArray⟩:YY)=s:=by rw[h1]
   rw[x]  at g m;have z:(s.toList==s.toList)=true:=by simp
   by_cases h2:z0o n=true;have b:=hid trivial
   all_goals
    first
    | (guard_hyp b
       rw[Xf ⟨h1,h2⟩] at d;rw[h2] at u)
    | (rw[Xc (fun h=>h2 h.2)] at d
       rw[show z0o n=false by simpa using h2] at u)
    have a:=hid d;clear d p g h1 h2 x;go_wp2_with fail;refine(m.o _ (Fr.refl [] _)).mono ?_;rintro e C ⟨rfl,k⟩;go_wp2_with fail;refine(u.o _).mono ?_;rintro e E ⟨rfl,h3⟩;subst h3;go_wp2;go_ret2
    first
    | (guard_hyp b
       exact⟨n,by rw[a.o];rfl,f,(fun v h=>by rw[a.o] at h;injection h),j.o.trans k⟩)
    | (exact⟨n,by rw[a.o];rfl,f,(fun v h=>by rw[a.o] at h;cases h),j.o.trans k⟩)
  ·rw[Xc (fun h=>h1 h.1)] at d;have a:=hid d
   have z:((⟨(Lib.itoa n).toArray⟩:YY).toList==s.toList)=false:=by
    rw[g];exact Xl (fun e=>h1 (by rw[←e]))
   clear d p g h1;generalize (⟨(Lib.itoa n).toArray⟩:YY)=r at *;go_wp2_with fail;refine(m.o _ (Fr.refl [] _)).mono ?_;rintro e C ⟨rfl,k⟩;go_wp2;go_ret2;exact⟨n,by rw[a.o];rfl,f,(fun v h=>by rw[a.o] at h;cases h),j.o.trans k⟩
 ·have a:=hid hno;clear hno;go_wp2;go_ret2;exact⟨n,by rw[a.o];rfl,f,(fun v h=>by rw[a.o] at h;cases h),j.o⟩
end
def toB(l:List UInt8):YY:=⟨l.toArray⟩
theorem z6n(l:List UInt8):(toB l).size=l.length:=by show l.toArray.size=_;simp
theorem z9n(l:List UInt8):(toB l).data.toList=l:=by simp[toB]
theorem zpy(b:YY):toB b.data.toList=b:=by cases b;simp[toB]
def q7j(l:YX):Prop:=0 < l.length∧l.length≤12∧∀s∈l,s.size≤60
section
open Go.RowKit
theorem z2y:(prog.info? 9).map (fun i=>(i.zero,i.size,i.bytes))=some (some (.string ⟨#[]⟩),1,16):=by kernel_rfl
theorem z9d:(prog.info? 97).map (fun i=>(i.zero,i.size,i.bytes))=some (some (.agg #[.string ⟨#[]⟩,.string ⟨#[]⟩]),2,32):=by kernel_rfl
theorem z67:(prog.info? 102).map (fun i=>(i.zero,i.size,i.bytes))=some (some (.agg #[.int .i64 0,.string ⟨#[]⟩]),2,24):=by kernel_rfl
theorem znx(l)(s):z03 (l++[s])=z03 l++[.string s]:=by simp[z03]
theorem zna(l:List (YY×YY))(p:YY×YY):z0e (l++[p])=z0e l++[.string p.1,.string p.2]:=by simp[z0e]
theorem zlc(l:List (Int×YY))(p:Int×YY):z06 (l++[p])=z06 l++[.int .i64 p.1,.string p.2]:=by simp[z06]
def z0k(w:World)(base:Nat)(v:Value)(x:Itm):Prop:=
 ∃v1 v2 v3,v=.agg #[.int .i64 x.kind,.string x.text,v1,v2,v3]∧w.ownsRow base 9 1 v1 x.list.length (z03 x.list)∧w.ownsRow base 97 2 v2 x.pairs.length (z0e x.pairs)∧w.ownsRow base 102 2 v3 x.scores.length (z06 x.scores)
theorem z68{w:World}{B size n:Nat}{v:Value}{xs:List Value}(h:Sl w B size v n xs):∃A c,v=.slice A n c:=by
 obtain⟨A,c,e,_⟩:=h;exact⟨A,c,e⟩
theorem z0k.item{w:World}{base:Nat}{v:Value}{x:Itm}(h:z0k w base v x):z0p w w.heap.size v x:=by
 obtain⟨r,p,n,rfl,m,l,g⟩:=h;have d:=z0l m;have b:=z0l l;have a:=z0l g;obtain⟨e,c1,rfl⟩:=z68 d;obtain⟨j,c2,rfl⟩:=z68 b;obtain⟨f,k,rfl⟩:=z68 a;exact⟨e,c1,j,c2,f,k,rfl,d,b,a⟩
theorem z0i{w:World}{base base' e size n:Nat}{v:Value}{xs:List Value}(h:w.ownsRow base e size v n xs)(hb:base'≤base):w.ownsRow base' e size v n xs:=by
 refine⟨h.1,?_⟩;rcases h.2 with hz|⟨g,cap,cur,rfl,hbg,rest⟩
 ·exact .inl hz
 ·exact .inr ⟨g,cap,cur,rfl,by omega,rest⟩
theorem z0k.nothing(w)(base:Nat):z0k w base (.agg #[.int .i64 0,.string ⟨#[]⟩,.slice none 0 0,.slice none 0 0,.slice none 0 0]) (z2q 0):=
 ⟨_,_,_,rfl,World.ownsRow_nil _ _ _ _,⟨rfl,.inl ⟨rfl,rfl⟩⟩,⟨rfl,.inl ⟨rfl,rfl⟩⟩⟩
theorem z11{w:World}{g t:Nat}{a b c d e:Value}(h:Whole w g t [a,b,c,d,e]):
  w.frozen? ⟨g,0,none⟩=false∧w.frozen? ⟨g,1,none⟩=false∧w.frozen? ⟨g,2,none⟩=false∧w.frozen? ⟨g,3,none⟩=false∧w.frozen? ⟨g,4,none⟩=false:=
 ⟨h.frozen 0,h.frozen 1,h.frozen 2,h.frozen 3,h.frozen 4⟩
theorem z12(n:Nat)(hn:n < 256):(z2q n).Small:=
 ⟨⟨by show -9223372036854775808≤(n:Int);omega,by show(n:Int)≤9223372036854775807;omega⟩,by show(0:Nat)≤_;omega,by show(0:Nat)≤_;omega,by show(0:Nat)≤_;omega,by show(0:Nat)≤_;omega,fun s hs=>absurd hs (by simp[z2q]),fun s hs=>absurd hs (by simp[z2q]),fun s hs=>absurd hs (by simp[z2q])⟩
def set5(w:World)(o:Nat)(a b c d e:Value):World:=((((w.setCell ⟨o,0,none⟩ a).setCell ⟨o,1,none⟩ b).setCell ⟨o,2,none⟩ c).setCell ⟨o,3,none⟩ d).setCell ⟨o,4,none⟩ e
theorem zdi{w:World}{base e0 size n:Nat}{v:Value}{xs:List Value}{o T:Nat}{cs:List Value}(h:w.ownsRow base e0 size v n xs)(hw:Whole w o T cs)(hT:T≠e0)(a b c d e):(set5 w o a b c d e).ownsRow base e0 size v n xs:=by
 have f:=z0u h hw hT;exact z0r _ (z0r _ (z0r _ (z0r _ (z0r _ h f) f) f) f) f
theorem z0k.set5{w:World}{base:Nat}{v:Value}{x:Itm}{o:Nat}{cs:List Value}(h:z0k w base v x)(hw:Whole w o 68 cs)(a b c d e):z0k (set5 w o a b c d e) base v x:=by
 obtain⟨k,j,g,rfl,m,l,f⟩:=h;exact⟨k,j,g,rfl,zdi m hw (by decide) _ _ _ _ _,zdi l hw (by decide) _ _ _ _ _,zdi f hw (by decide) _ _ _ _ _⟩
theorem z0k.base{w:World}{base base':Nat}{v:Value}{x:Itm}(h:z0k w base v x)(hb:base'≤base):z0k w base' v x:=by
 obtain⟨e,d,b,rfl,g,f,a⟩:=h;exact⟨e,d,b,rfl,z0i g hb,z0i f hb,z0i a hb⟩
structure zdp(x:Itm):Prop where
 kind:1≤x.kind∧x.kind≤5
 bare:z6q x=true
 many:many x≤24
 text:x.text.size≤60
 texts:∀s∈x.list,s.size≤60
 fields:∀p∈x.pairs,p.1.size≤60∧p.2.size≤60
 members:∀p∈x.scores,z0o p.1=true∧p.2.size≤60
theorem zif{l:List (Int×YY)}(h:z1d l=0):(∀p∈l,z0o p.1=true)∧(l.map (·.2)).Nodup∧rises ltC l=true:=by
 unfold z1d at h;by_cases h1:(l.any fun p=>!z0o p.1)=true
 ·rw[Xf h1] at h;cases h
 ·rw[Xc h1] at h;by_cases h2:¬(l.map (·.2)).Nodup
  ·rw[Xf h2] at h;cases h
  ·rw[Xc h2] at h;by_cases h3:rises ltC l=true
   ·refine⟨fun p b=>?_,Decidable.not_not.1 h2,h3⟩
    have a:(l.any fun p=>!z0o p.1)=false:=by
     cases hc:(l.any fun p=>!z0o p.1) with
     | false=>rfl
     | true=>exact absurd hc h1
    have:=Ue.1 a p b;simpa using this
   ·rw[Xc h3] at h;cases h
theorem z2t{x:Itm}(h:z0a x=0):zdp x:=by
 unfold z0a at h;by_cases h1:¬(1≤x.kind∧x.kind≤5)
 ·rw[Xf h1] at h;cases h
 rw[Xc h1] at h;by_cases h2:z6q x=false
 ·rw[Xf h2] at h;cases h
 rw[Xc h2] at h;have f:z6q x=true:=by simpa using h2
 have a:=f;simp only[z6q,Yf,Jp,beq_iff_eq] at a;by_cases h3:x.kind=1
 ·rw[Xf h3] at h;by_cases h4:60 < x.text.size
  ·rw[Xf h4] at h;cases h
  ·have g:x.list.length=0:=by omega
   have j:x.pairs.length=0:=by omega
   have k:x.scores.length=0:=by omega
   refine⟨Decidable.not_not.1 h1,f,by unfold Go.Proofs.YtnmoajaelmimnaaGreatDoor.many;omega,by omega,?_,?_,?_⟩
   ·rw[Xo g];intro s hs;cases hs
   ·rw[Xo j];intro s hs;cases hs
   ·rw[Xo k];intro s hs;cases hs
 rw[Xc h3] at h;by_cases h4:Go.Proofs.YtnmoajaelmimnaaGreatDoor.many x=0
 ·rw[Xf h4] at h;cases h
 rw[Xc h4] at h;by_cases h5:24 < Go.Proofs.YtnmoajaelmimnaaGreatDoor.many x∨zax x=true
 ·rw[Xf h5] at h;cases h
 rw[Xc h5] at h;by_cases h6:(x.kind=3∧rises ltS x.list=false)∨(x.kind=4∧rises ltP x.pairs=false)
 ·rw[Xf h6] at h;cases h
 rw[Xc h6] at h;have hs:=zif h;have b:zax x=false:=by simpa using fun e=>h5 (.inr e)
 unfold zax at b;simp only[Vc] at b;refine⟨Decidable.not_not.1 h1,f,by omega,by omega,?_,?_,?_⟩
 ·intro s hs;have:=Ue.1 b.1.1 s hs;simp[z5a] at this;exact this
 ·intro p d;have:=Ue.1 b.1.2 p d;simp[z5e] at this;exact this
 ·intro p d;have:=Ue.1 b.2 p d;simp[za4] at this;exact⟨hs.1 p d,this⟩
def Ahead{α:Type}(a b:List α)(m:Nat):Prop:=∀j,j < m→a[j]? = b[j]?
theorem zbq{α:Type}(a b:List α):Ahead a b 0:=fun j hj=>absurd hj (Vg _)
theorem z93{α:Type}{a b:List α}{m:Nat}{s:α}(h:Ahead a b m)(ha:a[m]? = some s)(hb:b[m]? = some s):Ahead a b (m+1):=by
 intro j d;rcases Yc j m with h1|h1
 ·exact h j h1
 ·have e:j=m:=by omega
  rw[e,ha,hb]
theorem zag{α:Type}{a b:List α}{m:Nat}(h:Ahead a b m)(ha:a.length≤m)(hl:a.length=b.length):a=b:=by
 apply Ji;intro j;rcases Yc j m with h1|h1
 ·exact h j h1
 ·rw[Uj (by omega),Uj (by omega)]
theorem z92{α:Type}{a b:List α}{m:Nat}{s t:α}(ha:a[m]? = some s)(hb:b[m]? = some t)(hne:s≠t):a≠b:=by
 rintro rfl;rw[ha] at hb;injection hb with hb
 exact hne hb
def zia(a b:YX):Bool:=decide (a=b)
theorem zzz{s t:YY}(h:s≠t):(s.toList==t.toList)=false∧(s.toList != t.toList)=true:=by
 have:=eqB s t;rw[Xl h] at this;exact⟨this,by rw[bne,this];rfl⟩
theorem zov(s:YY):(s.toList==s.toList)=true∧(s.toList != s.toList)=false:=by
 have:=eqB s s;rw[Xi rfl] at this;exact⟨this,by rw[bne,this];rfl⟩
theorem tw9x:(∀(a b:List (YY×YY)) (A1 A2:YV) (c1 c2 B:Nat) (w:World) (la:a.length≤281474976710656) (lb:b.length≤281474976710656) (hB:B≤w.heap.size)
  (h1:Sl w B 2 (.slice A1 a.length c1) a.length (z0e a)) (h2:Sl w B 2 (.slice A2 b.length c2) b.length (z0e b)),Calls prog 245 #[.slice A1 a.length c1,.slice A2 b.length c2] w fun e w'=>e=.returned (.bool (decide (a=b)))∧Fr [] w w')∧(∀(a b:List (Int×YY)) (A1 A2:YV) (c1 c2 B:Nat) (w:World) (la:a.length≤281474976710656) (lb:b.length≤281474976710656) (hB:B≤w.heap.size)
  (h1:Sl w B 2 (.slice A1 a.length c1) a.length (z06 a)) (h2:Sl w B 2 (.slice A2 b.length c2) b.length (z06 b)),Calls prog 246 #[.slice A1 a.length c1,.slice A2 b.length c2] w fun e w'=>e=.returned (.bool (decide (a=b)))∧Fr [] w w')∧(∀(a b:YX) (A1 A2:YV) (c1 c2 B:Nat) (w:World) (la:a.length≤281474976710656) (lb:b.length≤281474976710656) (hB:B≤w.heap.size)
  (h1:Sl w B 1 (.slice A1 a.length c1) a.length (z03 a)) (h2:Sl w B 1 (.slice A2 b.length c2) b.length (z03 b)),Calls prog 244 #[.slice A1 a.length c1,.slice A2 b.length c2] w fun e w'=>e=.returned (.bool (decide (a=b)))∧Fr [] w w')∧(∀(a b:YX) (A1 A2:YV) (c1 c2 B:Nat) (w:World) (la:a.length≤281474976710656) (lb:b.length≤281474976710656) (hB:B≤w.heap.size)
  (h1:Sl w B 1 (.slice A1 a.length c1) a.length (z03 a)) (h2:Sl w B 1 (.slice A2 b.length c2) b.length (z03 b)),Calls prog 142 #[.slice A1 a.length c1,.slice A2 b.length c2] w fun e w'=>e=.returned (.bool (zia a b))∧Fr [] w w'):=by
 refine⟨?_,?_,?_,?_⟩;have l:=hid trivial
 rotate_left
 have n:=hid trivial
 rotate_left
 have p:=hid trivial
 rotate_left
 have r:=hid trivial
 all_goals
  intro a b A1 A2 c1 c2 B w la lb hB h1 h2;have R:=hid h1;have U:=hid h2;clear h1 h2;by_cases hl:a.length=b.length
  ·
   have M:=hid hl;have k:((a.length:Int) != (b.length:Int))=false:=by simp[hl]
   have V:b.length≤a.length:=by omega
   have L:a.length≤b.length:=by omega
   clear hl
   first
   | (guard_hyp l
      go_enter func245,ntmps245;go_wp2;clear k;go_loopg [13] a.length (fun g i wr=>∃(m:Nat),g=a.length - m∧i=.int .i64 m∧m≤a.length∧Ahead a b m∧Fr [] w wr))
   | (guard_hyp n
      go_enter func246,ntmps246;go_wp2;clear k;go_loopg [13] a.length (fun g i wr=>∃(m:Nat),g=a.length - m∧i=.int .i64 m∧m≤a.length∧Ahead a b m∧Fr [] w wr))
   | (guard_hyp p
      go_enter func244,ntmps244;go_wp2;clear k;go_loopg [13] a.length (fun g i wr=>∃(m:Nat),g=a.length - m∧i=.int .i64 m∧m≤a.length∧Ahead a b m∧Fr [] w wr))
   | (go_enter func142,ntmps142
      go_wp2;clear k;go_loopg [5] a.length (fun g i wr=>∃(m:Nat),g=a.length - m∧i=.int .i64 m∧m≤a.length∧Ahead a b m∧Fr [] w wr))
   case atStart=>exact⟨0,rfl,rfl,Xt _,zbq _ _,Fr.refl _ _⟩
   case round=>
    obtain⟨m,rfl,rfl,Y,K,j⟩:=hrel;have D:=hid K;clear K;by_cases hlt:m < a.length
    ·
     obtain⟨s,hs⟩:∃s,a[m]? = some s:=⟨_,Xa hlt⟩;obtain⟨t,h⟩:∃t,b[m]? = some t:=⟨_,Xa (by omega)⟩;obtain⟨A,z,rfl,W,X,P,f⟩:=R.o.at_ (by omega);obtain⟨x,y,rfl,T,S,Q,d⟩:=U.o.at_ (by omega)
     first
     | (guard_hyp l
        have F:wr.cell? ⟨A,z+2 * m,none⟩=some (.string s.1):=j.cell (f (2 * m) _ (z0f a m s hs).1) (by simp);have G:wr.cell? ⟨A,z+2 * m+1,none⟩=some (.string s.2):=j.cell (f (2 * m+1) _ (z0f a m s hs).2) (by simp);have E:wr.cell? ⟨x,y+2 * m,none⟩=some (.string t.1):=j.cell (d (2 * m) _ (z0f b m t h).1) (by simp);have J:wr.cell? ⟨x,y+2 * m+1,none⟩=some (.string t.2):=j.cell (d (2 * m+1) _ (z0f b m t h).2) (by simp);rw[Ya 2 m] at F E G J)
     | (guard_hyp n
        have F:wr.cell? ⟨A,z+2 * m,none⟩=some (.int .i64 s.1):=j.cell (f (2 * m) _ (z0b a m s hs).1) (by simp);have G:wr.cell? ⟨A,z+2 * m+1,none⟩=some (.string s.2):=j.cell (f (2 * m+1) _ (z0b a m s hs).2) (by simp);have E:wr.cell? ⟨x,y+2 * m,none⟩=some (.int .i64 t.1):=j.cell (d (2 * m) _ (z0b b m t h).1) (by simp);have J:wr.cell? ⟨x,y+2 * m+1,none⟩=some (.string t.2):=j.cell (d (2 * m+1) _ (z0b b m t h).2) (by simp);rw[Ya 2 m] at F E G J)
     | (have F:wr.cell? ⟨A,z+m,none⟩=some (.string s):=j.cell (f m _ (z0x a m s hs)) (by simp)
        have E:wr.cell? ⟨x,y+m,none⟩=some (.string t):=j.cell (d m _ (z0x b m t h)) (by simp))
     have O:m < b.length:=by omega
     by_cases e:s=t
     ·
      first
      | (guard_hyp r
         skip)
      | (have N:=hid (z93 D.o hs (by rw[e];exact h)))
      subst e
      first
      | (guard_hyp l
         obtain⟨k,C⟩:=zov s.1;obtain⟨H,I⟩:=zov s.2)
      | (guard_hyp n
         have k:(s.1==s.1)=true:=by simp
         obtain⟨H,I⟩:=zov s.2)
      | (guard_hyp p
         obtain⟨k,C⟩:=zov s)
      | (obtain⟨k,C⟩:=zov s
         have N:=hid (z93 D.o hs h))
      clear f d hs h;go_wp2;go_quiet (fail);go_wp2;go_roundg (a.length - (m+1))
      case measure=>omega
      case rel=>exact⟨m+1,rfl,rfl,by omega,N.o,j.drewN _⟩
     first
     | (guard_hyp l
        ·
         have N:=hid (show decide (a=b)=false from Xl (z92 hs h e));by_cases e1:s.1=t.1
         ·
          have u:s.2≠t.2:=fun u=>e (Prod.ext e1 u);obtain⟨H,I⟩:=zzz u;have k:(s.1.toList==t.1.toList)=true:=by rw[e1];exact(zov t.1).1
          clear f d hs h;go_wp2;go_quiet (fail);go_wp2;go_ret;rw[N.o];exact⟨rfl,j.drewN _⟩
         ·
          obtain⟨k,C⟩:=zzz e1;clear f d hs h;go_wp2;go_quiet (fail);go_wp2;go_ret;rw[N.o];exact⟨rfl,j.drewN _⟩)
     | (guard_hyp n
        ·
         have N:=hid (show decide (a=b)=false from Xl (z92 hs h e));by_cases e1:s.1=t.1
         ·
          have u:s.2≠t.2:=fun u=>e (Prod.ext e1 u);obtain⟨H,I⟩:=zzz u;have k:(s.1==t.1)=true:=by simpa using e1
          clear f d hs h;go_wp2;go_quiet (fail);go_wp2;go_ret;rw[N.o];exact⟨rfl,j.drewN _⟩
         ·
          have k:(s.1==t.1)=false:=by simpa using e1
          clear f d hs h;go_wp2;go_quiet (fail);go_wp2;go_ret;rw[N.o];exact⟨rfl,j.drewN _⟩)
     | (guard_hyp p
        ·
         have N:=hid (show decide (a=b)=false from Xl (z92 hs h e));obtain⟨k,C⟩:=zzz e;clear f d hs h;go_wp2;go_quiet (fail);go_wp2;go_ret;rw[N.o];exact⟨rfl,j.drewN _⟩)
     | (·
         obtain⟨k,C⟩:=zzz e;have N:=hid (show zia a b=false from Xl (z92 hs h e));clear f d hs h e;go_wp2;go_quiet (fail);go_wp2;go_ret;rw[N.o];exact⟨rfl,j.drewN _⟩)
    ·
     first
     | (guard_hyp r
        have N:=hid (show zia a b=true from Xi (zag D.o (by omega) M.o)))
     | (have N:=hid (show decide (a=b)=true from Xi (zag D.o (by omega) M.o)))
     go_wp2;go_ret;rw[N.o];exact⟨rfl,j⟩
  ·
   first
   | (guard_hyp r
      have N:=hid (show zia a b=false from Xl (fun e=>hl (by rw[e]))))
   | (have N:=hid (show decide (a=b)=false from Xl (fun e=>hl (by rw[e]))))
   have k:((a.length:Int) != (b.length:Int))=true:=by simp;omega
   clear hl
   first
   | (guard_hyp l
      go_enter func245,ntmps245)
   | (guard_hyp n
      go_enter func246,ntmps246)
   | (guard_hyp p
      go_enter func244,ntmps244)
   | (go_enter func142,ntmps142)
   go_wp2;go_ret;rw[N.o];exact⟨rfl,Fr.refl _ _⟩
abbrev zqu:=@And.left _ _ tw9x
abbrev zqt:=@And.left _ _ (@And.right _ _ tw9x)
abbrev zqv:=@And.left _ _ (@And.right _ _ (@And.right _ _ tw9x))
abbrev zib:=@And.right _ _ (@And.right _ _ (@And.right _ _ tw9x))
def z7a(x y:Itm):Bool:=decide (x.kind=y.kind)&&decide (x.text=y.text)&&zia x.list y.list&&decide (x.pairs=y.pairs)&&decide (x.scores=y.scores)
theorem zl9{x y:Itm}:z7a x y=true↔x=y:=by
 constructor
 ·intro h;simp only[z7a,zia,Yf,decide_eq_true_eq] at h;cases x;cases y
  simp_all
 ·rintro rfl;simp[z7a,zia]
theorem zs0(x):z7a x x=true:=zl9.2 rfl
structure Bx2(w:World)(cs ds:List Value)(wr:World):Prop where
 b1:Whole wr w.heap.size 68 cs
 b2:Whole wr (w.heap.size+1) 68 ds
 fr:Fr [] w wr
theorem Bx2.step{w wr w1:World}{cs ds:List Value}(h:Bx2 w cs ds wr)(f:Fr [] wr w1):Bx2 w cs ds w1:=⟨h.b1.fr f (by simp),h.b2.fr f (by simp),h.fr.trans f⟩
theorem Bx2.start(w)(cs ds):Bx2 w cs ds ((w.alloc (.cells cs.toArray 68)).alloc (.cells ds.toArray 68)):=by
 refine⟨(Whole.new w _ _).alloc _,?_,((Fr.refl [] w).alloc _).alloc _⟩;have:=Whole.new (w.alloc (.cells cs.toArray 68)) 68 ds;simpa using this
theorem zla(x y:Itm)(v u)(w:World)(B:Nat)(hx:x.Small)(hy:y.Small)(hB:B≤w.heap.size)(h:z0p w B v x)(k:z0p w B u y):
  Calls prog 94 #[v,u] w fun e w'=>e=.returned (.bool (z7a x y))∧Fr [] w w':=by
 obtain⟨A1,c1,A2,c2,A3,c3,rfl,h1,S,h3⟩:=h;obtain⟨D1,e1,D2,e2,D3,e3,rfl,k1,k2,k3⟩:=k;have T:=hid (fun W (hf:Fr [] w W)=>zib x.list y.list A1 D1 c1 e1 B W hx.list hy.list (Xd hB hf.size) (h1.fr hf hB (by simp)) (k1.fr hf hB (by simp)));have G:=hid (Bx2.start w (yIl x A1 c1 A2 c2 A3 c3) (yIl y D1 e1 D2 e2 D3 e3));have H2:=hid S;have H3:=hid h3;have K2:=hid k2;have K3:=hid k3;have s2:=hx.pairs;have s3:=hx.scores;have t2:=hy.pairs;have t3:=hy.scores;have J:z7a x y=(decide (x.kind=y.kind)&&decide (x.text=y.text)&&zia x.list y.list&&decide (x.pairs=y.pairs)&&decide (x.scores=y.scores)):=rfl;have H:=hid J;clear J h1 S h3 k1 k2 k3 hx hy;by_cases ek:x.kind=y.kind
 ·by_cases et:x.text=y.text;have a0:=hid trivial
  all_goals
   have qk:(x.kind != y.kind)=false:=by simp[ek]
   first
   | (guard_hyp a0
      have qt:x.text.toList=y.text.toList:=by rw[et]
      have a7:=hid ek;have a9:=hid et;clear ek et;cases el:zia x.list y.list
      ·have E:=hid (show z7a x y=false by rw[H.o,el];simp);rw[el] at T;clear el;go_enter func94,ntmps94;go_wp2_with fail;refine(T.o _ G.o.fr).mono ?_;rintro e w1 ⟨rfl,z⟩;have D:=hid (G.o.step z);go_wp2;go_ret;rw[E.o];exact⟨rfl,D.o.fr⟩
      ·rw[el] at T;have a4:=hid el;clear el;by_cases el:x.pairs.length=y.pairs.length
       ·have j:((x.pairs.length:Int) != (y.pairs.length:Int))=false:=by simp[el]
        have r:=hid el;have O:x.pairs.length≤y.pairs.length:=by omega
        clear el;by_cases el:x.scores.length=y.scores.length;have I:=hid trivial
        all_goals
         first
         | (guard_hyp I
            have f:((x.scores.length:Int) != (y.scores.length:Int))=false:=by simp[el]
            have l:=hid el;have L:x.scores.length≤y.scores.length:=by omega)
         | (have f:((x.scores.length:Int) != (y.scores.length:Int))=true:=by simp;omega
            have E:=hid (show z7a x y=false by rw[H.o,Xl (show ¬x.scores=y.scores from fun e=>el (by rw[e]))];simp))
         clear el;go_enter func94,ntmps94;go_wp2_with fail;refine(T.o _ G.o.fr).mono ?_;rintro e w1 ⟨rfl,z⟩;have D:=hid (G.o.step z);obtain⟨X,d1,V,Q,R⟩:=five D.o.b1;obtain⟨f0,f1,Y,U,P⟩:=five D.o.b2;go_wp2
         first
         | (guard_hyp I
            clear X d1 V Q R f0 f1 Y U P qk qt j f z;go_loopg [5] x.pairs.length (fun g i wr=>∃(m:Nat),g=x.pairs.length - m∧i=.int .i64 m∧m≤x.pairs.length∧Ahead x.pairs y.pairs m∧Bx2 w [.int .i64 x.kind,.string x.text,.slice A1 x.list.length c1,.slice A2 x.pairs.length c2,.slice A3 x.scores.length c3] [.int .i64 y.kind,.string y.text,.slice D1 y.list.length e1,.slice D2 y.pairs.length e2,.slice D3 y.scores.length e3] wr)
            case atStart=>exact⟨0,rfl,rfl,Xt _,zbq _ _,D.o⟩
            clear D
            case round=>
             obtain⟨m,rfl,rfl,hm,hA,J⟩:=hrel;have M:=hid hA;have d:=hid J;clear hA J;obtain⟨X,d1,V,Q,R⟩:=five d.o.b1;obtain⟨f0,f1,Y,U,P⟩:=five d.o.b2;by_cases hlt:m < x.pairs.length
             ·obtain⟨s,hs⟩:∃s,x.pairs[m]? = some s:=⟨_,Xa hlt⟩;obtain⟨t,n⟩:∃t,y.pairs[m]? = some t:=⟨_,Xa (by omega)⟩;obtain⟨z,o1,F,aa,ab,a8,b⟩:=H2.o.at_ (by omega);obtain⟨g2,o2,A,a6,a5,a3,a⟩:=K2.o.at_ (by omega);have x1:wr.cell? ⟨z,o1+2 * m,none⟩=some (.string s.1):=d.o.fr.cell (b _ _ (z0f _ m s hs).1) (by simp);have y1:wr.cell? ⟨z,o1+2 * m+1,none⟩=some (.string s.2):=d.o.fr.cell (b _ _ (z0f _ m s hs).2) (by simp);have x2:wr.cell? ⟨g2,o2+2 * m,none⟩=some (.string t.1):=d.o.fr.cell (a _ _ (z0f _ m t n).1) (by simp);have y2:wr.cell? ⟨g2,o2+2 * m+1,none⟩=some (.string t.2):=d.o.fr.cell (a _ _ (z0f _ m t n).2) (by simp);rw[Ya 2 m] at x1 x2 y1 y2;rw[F] at Q;rw[A] at U;clear F A;have a2:m < y.pairs.length:=by omega
              by_cases e:s=t
              ·subst e;obtain⟨q1,q2⟩:=zov s.1;obtain⟨q3,q4⟩:=zov s.2;have N:=hid (z93 M.o hs n);clear b a hs n;go_wp2;go_quiet (fail);go_wp2;go_roundg (x.pairs.length - (m+1))
               case measure=>omega
               case rel=>exact⟨m+1,rfl,rfl,by omega,N.o,d.o.step (Fr.drewN_of _ _ _)⟩
              ·have E:=hid (show z7a x y=false by rw[H.o,Xl (z92 hs n e)];simp)
               have K:s.1≠t.1∨(s.1=t.1∧s.2≠t.2):=by
                by_cases h:s.1=t.1
                ·exact .inr ⟨h,fun S=>e (Prod.ext h S)⟩
                ·exact .inl h
               clear b a hs n e;rcases K with hne|⟨he,hne⟩;have a1:=hid trivial
               all_goals
                obtain⟨q1,q2⟩:=zzz hne
                first
                | (guard_hyp a1
                   clear hne)
                | (have q3:(s.1.toList==t.1.toList)=true:=by rw[he];exact(zov _).1
                   clear hne he)
                go_wp2;go_quiet (fail);go_wp2;go_ret;rw[E.o];exact⟨rfl,(d.o.step (Fr.drewN_of _ _ _)).fr⟩
             have C:=hid (zag M.o (by omega) r.o);go_wp2;clear X d1 V Q R f0 f1 Y U P hlt hm M;go_loopg [6] x.scores.length (fun g i wr=>∃(m:Nat),g=x.scores.length - m∧i=.int .i64 m∧m≤x.scores.length∧Ahead x.scores y.scores m∧Bx2 w [.int .i64 x.kind,.string x.text,.slice A1 x.list.length c1,.slice A2 x.pairs.length c2,.slice A3 x.scores.length c3] [.int .i64 y.kind,.string y.text,.slice D1 y.list.length e1,.slice D2 y.pairs.length e2,.slice D3 y.scores.length e3] wr)
             case atStart=>exact⟨0,rfl,rfl,Xt _,zbq _ _,d.o⟩
             clear d
             case round=>
              obtain⟨m,rfl,rfl,hm,hA,J⟩:=hrel;have M:=hid hA;have d:=hid J;clear hA J;obtain⟨X,d1,V,Q,R⟩:=five d.o.b1;obtain⟨f0,f1,Y,U,P⟩:=five d.o.b2;by_cases hlt:m < x.scores.length
              ·obtain⟨s,hs⟩:∃s,x.scores[m]? = some s:=⟨_,Xa hlt⟩;obtain⟨t,n⟩:∃t,y.scores[m]? = some t:=⟨_,Xa (by omega)⟩;obtain⟨z,o1,F,aa,ab,a8,b⟩:=H3.o.at_ (by omega);obtain⟨g2,o2,A,a6,a5,a3,a⟩:=K3.o.at_ (by omega);have x1:wr.cell? ⟨z,o1+2 * m,none⟩=some (.int .i64 s.1):=d.o.fr.cell (b _ _ (z0b _ m s hs).1) (by simp);have y1:wr.cell? ⟨z,o1+2 * m+1,none⟩=some (.string s.2):=d.o.fr.cell (b _ _ (z0b _ m s hs).2) (by simp);have x2:wr.cell? ⟨g2,o2+2 * m,none⟩=some (.int .i64 t.1):=d.o.fr.cell (a _ _ (z0b _ m t n).1) (by simp);have y2:wr.cell? ⟨g2,o2+2 * m+1,none⟩=some (.string t.2):=d.o.fr.cell (a _ _ (z0b _ m t n).2) (by simp);rw[Ya 2 m] at x1 x2 y1 y2;rw[F] at R;rw[A] at P;clear F A;have a2:m < y.scores.length:=by omega
               by_cases e:s=t
               ·subst e;obtain⟨q3,q4⟩:=zov s.2;have N:=hid (z93 M.o hs n);clear b a hs n;go_wp2;go_quiet (fail);go_wp2;go_roundg (x.scores.length - (m+1))
                case measure=>omega
                case rel=>exact⟨m+1,rfl,rfl,by omega,N.o,d.o.step (Fr.drewN_of _ _ _)⟩
               ·have E:=hid (show z7a x y=false by rw[H.o,Xl (z92 hs n e)];simp)
                have K:s.1≠t.1∨(s.1=t.1∧s.2≠t.2):=by
                 by_cases h:s.1=t.1
                 ·exact .inr ⟨h,fun S=>e (Prod.ext h S)⟩
                 ·exact .inl h
                clear b a hs n e;rcases K with hne|⟨he,hne⟩;have Z:=hid trivial
                all_goals
                 first
                 | (guard_hyp Z
                    have q1:(s.1==t.1)=false:=by simpa using hne
                    have q2:(s.1 != t.1)=true:=by simpa using hne
                    clear hne)
                 | (obtain⟨q1,q2⟩:=zzz hne
                    have q3:(s.1==t.1)=true:=by simpa using he
                    clear hne he)
                 go_wp2;go_quiet (fail);go_wp2;go_ret;rw[E.o];exact⟨rfl,(d.o.step (Fr.drewN_of _ _ _)).fr⟩
              have p:=hid (zag M.o (by omega) l.o);have E:=hid (show z7a x y=true by rw[H.o,Xi a7.o,Xi a9.o,a4.o,Xi C.o,Xi p.o];rfl);go_wp2;go_ret;rw[E.o];exact⟨rfl,d.o.fr⟩)
         | (go_ret
            rw[E.o];exact⟨rfl,D.o.fr⟩)
       ·have j:((x.pairs.length:Int) != (y.pairs.length:Int))=true:=by simp;omega
        have E:=hid (show z7a x y=false by rw[H.o,Xl (show ¬x.pairs=y.pairs from fun e=>el (by rw[e]))];simp);clear el;go_enter func94,ntmps94;go_wp2_with fail;refine(T.o _ G.o.fr).mono ?_;rintro e w1 ⟨rfl,z⟩;have D:=hid (G.o.step z);obtain⟨X,d1,V,Q,R⟩:=five D.o.b1;obtain⟨f0,f1,Y,U,P⟩:=five D.o.b2;go_wp2;go_ret;rw[E.o];exact⟨rfl,D.o.fr⟩)
   | (have qt:¬x.text.toList=y.text.toList:=by have:=(zzz et).1;simpa using this
      have E:=hid (show z7a x y=false by rw[H.o,Xl et];simp);clear ek et;go_enter func94,ntmps94;go_wp2;go_ret;rw[E.o];exact⟨rfl,G.o.fr⟩)
 ·have qk:(x.kind != y.kind)=true:=by simpa using ek
  have E:=hid (show z7a x y=false by rw[H.o,Xl ek];simp);clear ek;go_enter func94,ntmps94;go_wp2;go_ret;rw[E.o];exact⟨rfl,G.o.fr⟩
def zxp(x:Itm)(w:World)(e:Ending)(w':World):Prop:=∃v,e=.returned v∧z0k w' w.heap.size v x∧Fr [] w w'
theorem Fr.dr{S:List Nat}{w w':World}(h:Fr S w.drew w'):Fr S w w':=⟨h.os,h.tape,h.output,h.size,h.block⟩
theorem z4x{x:Itm}(h:zdp x):x.Small:=by
 have b:=h.many;unfold many at b;have d:=h.kind;refine⟨by omega,by have:=h.text;omega,by omega,by omega,by omega,fun s hs=>by have:=h.texts s hs;omega,fun p a=>by have:=h.fields p a;omega,fun p a=>?_⟩;have:=h.members p a;have hi:=this.1;simp only[z0o,Yf,decide_eq_true_eq] at hi;omega
end
end Go.Proofs.YtnmoajaelmimnaaGreatDoor
