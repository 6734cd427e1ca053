/- Contracts; no condition but each theorem's own. -/
import Derived.Test.YtnmoajaelmimnaaGreatDoorSlY13
import Derived.Test.YtnmoajaelmimnaaGreatDoorSlY14
set_option linter.unusedVariables false
set_option linter.unusedSimpArgs false
set_option maxHeartbeats 8000000
set_option maxRecDepth 100000
namespace Go.Proofs.YtnmoajaelmimnaaGreatDoor
open Go.Proofs.Tryz
section
open Go.RowKit
def q3b(l:List (Int×YY))(s:Int×YY):Bool:=match l[z8k l s]? with|some q=>decide (za7 q s=0)|none=>false
theorem zoe(l:List (Int×YY))(f:Int)(v:YY)(A)(c B:Nat)(w:World)(hr:rises ltC l=true)(hI:∀q∈l,z0o q.1=true)(hV:z0o f=true)(hl:l.length≤281474976710656)(hB:B≤w.heap.size)(h:Sl w B 2 (.slice A l.length c) l.length (z06 l)):
  Calls prog 285 #[.slice A l.length c,.agg #[.int .i64 f,.string v],.func (Fn.func 188) #[] #[]] w (z3e (z8k l (f,v)) (q3b l (f,v)) w):=by
 have Y:=hid h;have HI:=hid hI;have HV:=hid hV;have y:=zhq l (f,v);have HR:=hid hr;have F0:=hid ((Fr.refl [] w).alloc (.cells #[.int .i64 f,.string v] 102));have B0:=hid (Whole.new w 102 [.int .i64 f,.string v]);clear h hr hI hV;go_enter func285,ntmps285;go_wp2;go_loopg [9,10] l.length (fun g s9 R wr=>∃(p hi:Nat),g=hi - p∧s9=.int .i64 p∧R=.int .i64 hi∧p≤z8k l (f,v)∧z8k l (f,v)≤hi∧hi≤l.length∧Fr [] w wr∧Whole wr w.heap.size 102 [.int .i64 f,.string v])
 case atStart=>exact⟨0,l.length,rfl,rfl,rfl,Xt _,y,Xb _,F0.o,B0.o⟩
 case round=>
  obtain⟨p,hi,rfl,rfl,rfl,N,L,h3,U,G⟩:=hrel;have s:=hid U;have H:=hid G;clear U G;by_cases hlt:p < hi;have t:=hid trivial
  all_goals
   first
   | (guard_hyp t
      obtain⟨m,Z⟩:∃m,m=(p+hi) / 2:=⟨_,rfl⟩;have Q:m < l.length:=by omega
      obtain⟨b,off,rfl,G,hc,O,a⟩:=Y.o.at_ (by omega);obtain⟨q,j⟩:∃q,l[m]? = some q:=⟨_,Xa Q⟩;have T:w.cell? ⟨b,off+m * 2,none⟩=some (.int .i64 q.1):=by rw[Ya];exact a _ _ (z0b l m q j).1
      have S:w.cell? ⟨b,off+m * 2+1,none⟩=some (.string q.2):=by rw[Ya];exact a _ _ (z0b l m q j).2
      have X1:=hid T;have X2:=hid S;have c1:=s.o.cell T (by simp);have c2:=s.o.cell S (by simp))
   | (obtain rfl:hi=p:=by omega
      obtain⟨M,n⟩:∃M,M=z8k l (f,v):=⟨_,rfl⟩;obtain rfl:hi=M:=by omega
      have X:=hid n)
   have I:wr.cell? ⟨w.heap.size,0,none⟩=some (.int .i64 f):=H.o.cell 0;have F:wr.cell? ⟨w.heap.size,1,none⟩=some (.string v):=H.o.cell 1
   first
   | (guard_hyp t
      have J:=hid (fun W=>(show Calls prog 188 #[.agg #[.int .i64 q.1,.string q.2],.agg #[.int .i64 f,.string v]] W (fun e K=>e=.returned (.int .i64 (za7 q (f,v)))∧Fr [] W K) from zca q (f,v) W (HI.o q (Xj j)) HV.o));have P:((p:Int)+(hi:Int)) / 2=(m:Int):=by omega
      have hM:=hid Z
      have u:(za7 q (f,v) < 0→m < z8k l (f,v))∧(¬za7 q (f,v) < 0→z8k l (f,v)≤m):=⟨fun h=>by
       rcases Yc m (z8k l (f,v)) with h'|h'
       ·exact h'
       ·exact absurd h (zva HR.o h' j),fun h=>by
       rcases Yc m (z8k l (f,v)) with h'|h'
       ·exact absurd (zn1 h' j) h
       ·exact h'⟩
      have V:=hid u;clear T S a j u Z;generalize za7 q (f,v)=o at *;by_cases ho:o < 0;have k:=hid trivial
      all_goals
       first
       | (guard_hyp k
          have D:=V.o.1 ho)
       | (have D:=V.o.2 ho)
       go_wp2;clear P;go_region_held3 (fun r=>r.cell? ⟨b,off+m * 2,none⟩=some (.int .i64 q.1)∧r.cell? ⟨b,off+m * 2+1,none⟩=some (.string q.2)∧r.cell? ⟨w.heap.size,0,none⟩=some (.int .i64 f)∧r.cell? ⟨w.heap.size,1,none⟩=some (.string v)) (go_keep) (first|(go_at_call 188;(refine(J.o _).mono ?_);rintro e w2 ⟨rfl,E⟩;have d:=hid (z01 E);have c1:=d.o.cell c1 (by simp);have c2:=d.o.cell c2 (by simp);have I:=d.o.cell I (by simp);have F:=d.o.cell F (by simp);clear E))
       go_wp2
       first
       | (guard_hyp k
          go_roundg (hi - (m+1)))
       | (go_roundg (m - p))
       case measure=>have:=hM.o;omega
       first
       | (guard_hyp k
          case rel=>exact⟨m+1,hi,rfl,by go_num,rfl,by omega,L,h3,s.o.trans d.o,H.o.fr d.o (by simp)⟩)
       | (case rel=>exact⟨p,m,rfl,rfl,rfl,N,D,by omega,s.o.trans d.o,H.o.fr d.o (by simp)⟩))
   | (by_cases D:hi < l.length
      ·obtain⟨b,off,rfl,G,hc,O,a⟩:=Y.o.at_ (by omega);obtain⟨q,j⟩:∃q,l[hi]? = some q:=⟨_,Xa D⟩;have c1:=s.o.cell (show w.cell? ⟨b,off+hi * 2,none⟩=some (.int .i64 q.1) by rw[Ya];exact a _ _ (z0b l hi q j).1) (by simp);have c2:=s.o.cell (show w.cell? ⟨b,off+hi * 2+1,none⟩=some (.string q.2) by rw[Ya];exact a _ _ (z0b l hi q j).2) (by simp);have J:=hid (fun W=>(show Calls prog 188 #[.agg #[.int .i64 q.1,.string q.2],.agg #[.int .i64 f,.string v]] W (fun e K=>e=.returned (.int .i64 (za7 q (f,v)))∧Fr [] W K) from zca q (f,v) W (HI.o q (Xj j)) HV.o));have x:=hid (show q3b l (f,v)=decide (za7 q (f,v)=0) from by unfold q3b;rw[←n,j]);clear a j n N L;generalize za7 q (f,v)=o at *;by_cases ho:o=0;have C:=hid trivial
       all_goals
        first
        | (guard_hyp C
           subst ho;have z:=hid (x.o.trans (Xi rfl));clear x)
        | (have q1:(o==0)=false:=by simpa using ho
           have z:=hid (x.o.trans (Xl ho));clear ho x)
        go_wp2;go_region_held3 (fun r=>r.cell? ⟨b,off+hi * 2,none⟩=some (.int .i64 q.1)∧r.cell? ⟨b,off+hi * 2+1,none⟩=some (.string q.2)∧r.cell? ⟨w.heap.size,0,none⟩=some (.int .i64 f)∧r.cell? ⟨w.heap.size,1,none⟩=some (.string v)) (go_keep) (first|(go_at_call 188;(refine(J.o _).mono ?_);rintro e w2 ⟨rfl,E⟩;have d:=hid (z01 E);have c1:=d.o.cell c1 (by simp);have c2:=d.o.cell c2 (by simp);have I:=d.o.cell I (by simp);have F:=d.o.cell F (by simp);clear E))
        go_wp2;go_ret2;refine⟨?_,s.o.trans d.o⟩;rw[←X.o,z.o];rfl
      ·have x:=hid (show q3b l (f,v)=false from by unfold q3b;rw[←n,Uj (by omega)]);have a0:decide ((hi:Int) < (l.length:Int))=false:=by simpa using D
       clear n N L;go_wp2;go_quiet (fail);go_wp2;go_ret2;refine⟨?_,s.o.drewN _⟩;rw[←X.o,x.o];rfl)
theorem z9g(x:Itm)(v)(w:World)(B:Nat)(hs:x.Small)(hB:B≤w.heap.size)(h:z0p w B v x):
  Calls prog 281 #[v] w fun e w'=>e=.returned (.int .i64 (z02 5 x))∧Fr [] w w':=by
 have M:=hid (fun W (hf:Fr [] w W)=>zj0 x 5 v W B hs (Xd hB hf.size) (h.fr hf hB (by simp)));obtain⟨b,c1,g,c2,d,j,rfl,m,l,h3⟩:=h;have a:Fr [] w (w.alloc (.cells (yIa x b c1 g c2 d j) 68)):=(Fr.refl [] w).alloc _;go_enter func281,ntmps281;go_wp2_with fail;refine(M.o _ a).mono ?_;rintro e k ⟨rfl,f⟩;go_wp2;go_ret;exact⟨rfl,a.trans f⟩
def OwnI5(base:Nat)(x:Itm)(w:World)(e:Ending)(w':World):Prop:=∃u,e=.returned u∧z0k w' base u x∧Fr [] w w'
theorem zfc(l:List (Int×YY))(base:Nat)(v)(w:World)(hl:l.length≤1000000)(ht:∀s∈l,(-9223372036854775808≤s.1∧s.1≤9223372036854775807)∧s.2.size≤281474976710656)(h:w.ownsRow base 102 2 v l.length (z06 l)):
  Calls prog 287 #[v] w (OwnI5 base (ofC l) w):=by
 obtain⟨A,c,rfl,-⟩:=z05 h;refine(znp l A c w w.heap.size (zcs hl ht) (Xb _) (z0l h)).mono ?_;rintro e b ⟨rfl,a⟩;unfold ofC;by_cases h0:l.length=0
 ·rw[Xf h0,Xf h0];exact⟨_,rfl,z0k.nothing _ _,a⟩
 ·rw[Xc h0,Xc h0];exact⟨_,rfl,⟨_,_,_,rfl,⟨rfl,.inl ⟨rfl,rfl⟩⟩,⟨rfl,.inl ⟨rfl,rfl⟩⟩,z08 h a (by simp)⟩,a⟩
theorem zrm(x:Int×YY)(m)(g:Nat)(w:World)(hg:w.cell? ⟨g,0,none⟩=some (.string m)):
  Calls prog 317 (#[.agg #[.int .i64 x.1,.string x.2]]++#[.pointer (some ⟨g,0,none⟩)]) w fun e w'=>e=.returned (.bool (decide (x.2=m)))∧Fr [] w w':=by
 have E:=hid (eqB x.2 m);have a:Fr [] w (w.alloc (.cells #[.int .i64 x.1,.string x.2] 102)):=(Fr.refl [] w).alloc _;have b:(w.alloc (.cells #[.int .i64 x.1,.string x.2] 102)).cell? ⟨g,0,none⟩=some (.string m):=a.cell hg (by simp);have d:=hid (Whole.new w 102 [.int .i64 x.1,.string x.2]);have c1:(w.alloc (.cells #[.int .i64 x.1,.string x.2] 102)).cell? ⟨w.heap.size,1,none⟩=some (.string x.2):=d.o.cell 1;clear hg;go_enter func317,ntmps317;go_wp2;go_ret;exact⟨by rw[←E.o];rfl,a⟩
theorem znc(m)(g D:Nat)(w:World)(h:w.cell? ⟨g,0,none⟩=some (.string m))(hg:g < D):zq4 317 #[.pointer (some ⟨g,0,none⟩)] (fun q=>decide (q.2=m)) D w:=
 fun W x hW=>zrm x m g W (z5j hW h hg (by simp))
theorem zl0(l:List (Int×YY))(m:YY)(A)(c B:Nat)(w:World)(hl:l.length≤281474976710656)(hB:B≤w.heap.size)(h:Sl w B 2 (.slice A l.length c) l.length (z06 l)):
  Calls prog 283 #[.slice A l.length c,.string m] w fun e w'=>e=.returned (.int .i64 (z3c (fun q:Int×YY=>decide (q.2=m)) l))∧Fr [] w w':=by
 have d:=hid ((Fr.refl [] w).alloc (.cells #[.string m] 9));have a:(w.alloc (.cells #[.string m] 9)).heap.size=w.heap.size+1:=by simp
 have b:zq4 317 #[.pointer (some ⟨w.heap.size,0,none⟩)] (fun q=>decide (q.2=m)) (w.heap.size+1) (w.alloc (.cells #[.string m] 9)):=znc m w.heap.size _ _ ((Whole.new w 9 [.string m]).cell 0) (by omega);have I:=hid (zp4 317 #[.pointer (some ⟨w.heap.size,0,none⟩)] (z1b func317 (by kernel_rfl) rfl) _ _ l A c B _ b hl (by omega) (h.fr d.o hB (by simp)));clear b h a;go_enter func283,ntmps283;go_wp2_with fail;refine I.o.mono ?_;rintro e g ⟨rfl,f⟩;go_wp2;go_ret;exact⟨rfl,d.o.trans f⟩
theorem zie(l:List (Int×YY))(A)(c:Nat)(w:World)(B:Nat)(hl:l.length≤281474976710656)(hB:B≤w.heap.size)(h:Sl w B 2 (.slice A l.length c) l.length (z06 l)):
  Calls prog 282 #[.slice A l.length c] w fun e w'=>e=.returned (.int .i64 (z4z l))∧Fr [] w w':=by
 have G:=hid h;have E:=hid (show z4z l=if l.length=0 then 1 else zd7 l from rfl);clear h;by_cases h0:l.length=0
 ·have r:=hid (E.o.trans (Xf h0));have F:((l.length:Int)==0)=true:=by simp[h0]
  clear E h0;go_enter func282,ntmps282;go_wp2;go_ret;rw[r.o];exact⟨rfl,Fr.refl _ _⟩
 ·have r:=hid (E.o.trans (Xc h0));have F:((l.length:Int)==0)=false:=beq_eq_false_iff_ne.2 (by omega);clear E;go_enter func282,ntmps282;go_wp2;go_loopg [10] l.length (fun g i wr=>∃(k:Nat),g=l.length - k∧k≤l.length∧i=.int .i64 k∧Hid (zd7 l=zd7 (l.drop k))∧Fr [] w wr)
  case atStart=>exact⟨0,rfl,Xt _,rfl,hid rfl,Fr.refl _ _⟩
  case round=>
   obtain⟨k,rfl,I,rfl,D,C⟩:=hrel;have j:=hid C;clear C;by_cases hlt:k < l.length
   ·obtain⟨b,off,rfl,H,K,J,a⟩:=G.o.at_ (by omega);obtain⟨s,hs⟩:∃s,l[k]? = some s:=⟨_,Xa hlt⟩;have z:wr.cell? ⟨b,off+2 * k,none⟩=some (.int .i64 s.1):=j.o.cell (a _ _ (z0b l k s hs).1) (by simp);have y:wr.cell? ⟨b,off+2 * k+1,none⟩=some (.string s.2):=j.o.cell (a _ _ (z0b l k s hs).2) (by simp);rw[Ya 2 k] at z y;have m:=hid (D.o.trans (zs3 hs));have p:=hid (fun W=>z7p s.1 W);have u:=hid (fun W=>z3m s.2 W);clear a hs;by_cases h1:z0o s.1=true
    ·have d:=hid (m.o.trans (Xc (by rw[h1];decide)));rw[h1] at p;by_cases h2:60 < s.2.size
     ·have n:=hid (r.o.trans (d.o.trans (Xf h2)));rw[Xi h2] at u;clear h1 h2 m d;go_wp2_with fail;refine(p.o _).mono ?_;rintro e t ⟨rfl,rfl⟩;go_wp2_with fail;refine(u.o _).mono ?_;rintro e t ⟨rfl,rfl⟩;go_wp2;go_ret;rw[n.o];exact⟨rfl,j.o.alloc _⟩
     ·have x:=hid (d.o.trans (Xc h2));rw[Xl h2] at u;clear h1 h2 m d;go_wp2_with fail;refine(p.o _).mono ?_;rintro e t ⟨rfl,rfl⟩;go_wp2_with fail;refine(u.o _).mono ?_;rintro e t ⟨rfl,rfl⟩;go_wp2;go_roundg (l.length - (k+1))
      case measure=>omega
      case rel=>exact⟨k+1,rfl,by omega,by go_num,x,j.o.alloc _⟩
    ·have f:z0o s.1=false:=by simpa using h1
     have n:=hid (r.o.trans (m.o.trans (Xf f)));rw[f] at p;clear h1 f m;go_wp2_with fail;refine(p.o _).mono ?_;rintro e t ⟨rfl,rfl⟩;go_wp2;go_ret;rw[n.o];exact⟨rfl,j.o.alloc _⟩
   ·have n:=hid (r.o.trans (D.o.trans (zww (by omega))));go_wp2;go_ret;rw[n.o];exact⟨rfl,j.o⟩
theorem zu7(x:Int×YY)(l:YX)(A)(c g B:Nat)(w:World)(hl:l.length≤281474976710656)(hB:B≤w.heap.size)(h:Sl w B 1 (.slice A l.length c) l.length (z03 l))(hg:w.cell? ⟨g,0,none⟩=some (.slice A l.length c)):
  Calls prog 289 (#[.agg #[.int .i64 x.1,.string x.2]]++#[.pointer (some ⟨g,0,none⟩)]) w fun e w'=>e=.returned (.bool (l.any fun y=>decide (y=x.2)))∧Fr [] w w':=by
 have a:Fr [] w (w.alloc (.cells #[.int .i64 x.1,.string x.2] 102)):=(Fr.refl [] w).alloc _;have d:=hid (show Whole (w.alloc (.cells #[.int .i64 x.1,.string x.2] 102)) w.heap.size 102 [.int .i64 x.1,.string x.2] from Whole.new w _ _);have k:=hid (fun W (hf:Fr [] w W)=>z7i l x.2 A c B W hl (Xd hB hf.size) (h.fr hf hB (by simp)));have f:g < w.heap.size:=World.block_lt_of_cell? w _ hg;have j:(w.alloc (.cells #[.int .i64 x.1,.string x.2] 102)).cell? ⟨g,0,none⟩=some (.slice A l.length c):=a.cell hg (by simp);have c1:(w.alloc (.cells #[.int .i64 x.1,.string x.2] 102)).cell? ⟨w.heap.size,1,none⟩=some (.string x.2):=d.o.cell 1;generalize (l.any fun y=>decide (y=x.2))=b at *;clear h hg;go_enter func289,ntmps289;go_wp2_with fail;refine(k.o _ a).mono ?_;rintro e m ⟨rfl,rfl⟩;go_wp2;go_ret;exact⟨rfl,a⟩
theorem zqp(l:YX)(A)(c g D:Nat)(w:World)(hl:l.length≤281474976710656)(hD:D≤w.heap.size)(h:Sl w D 1 (.slice A l.length c) l.length (z03 l))(hc:w.cell? ⟨g,0,none⟩=some (.slice A l.length c))(hg:g < D):
  zq4 289 #[.pointer (some ⟨g,0,none⟩)] (fun x=>l.any fun y=>decide (y=x.2)) D w:=
 fun W x hW=>zu7 x l A c g D W hl (Xd hD hW.size) (zwu h hW (Xb _)) (z5j hW hc hg (by simp))
end
section
open Go.ChangeShapes Go.WideShapes Go.RowKit Go.Deep
theorem zy4:prog.bytesOf 124=144:=by kernel_rfl
theorem zy9:prog.cellsOf 124=10:=by kernel_rfl
theorem zt9:prog.cellsOf 39=1:=by kernel_rfl
theorem zy8:prog.cellsOf 40=1:=by kernel_rfl
theorem q2f:prog.cellsOf 122=2:=by kernel_rfl
theorem q2e:prog.cellsOf 4=1:=by kernel_rfl
theorem zya:prog.cellsOf 42=2:=by kernel_rfl
section
variable {H:Type} {enc:TypeId×Value→H} {w:World}
theorem q6h{fuel:Nat}{l:List Value}{xd:DataW H×List MemPlace}(hf:DataW.trod enc prog w 0 (fun _=>true) true fuel 122 l=some xd)(hsz:l.length=2):
  ∃a b:Int,l=[.int .i64 a,.int .i64 b]∧(-9223372036854775808≤a∧a≤9223372036854775807)∧(-9223372036854775808≤b∧b≤9223372036854775807):=by
 match l,hsz with
 | [a0,a1],_=>
  obtain⟨r,k,_,s,_,e,j⟩:=DataW.trod_struct underlying122 hf;have f0:=j 0 _ rfl;have h:=j 1 _ rfl;simp[zdd] at f0 h
  match r,e with
  | [y0,y1],_=>
   obtain⟨n,p,-,f⟩:=DataW.trod_int underlying3 f0;obtain⟨m,g,-,d⟩:=DataW.trod_int underlying3 h;simp[Value.cells] at p g;subst p;subst g;exact⟨n,m,rfl,bounds_i64 f,bounds_i64 d⟩
theorem q45{fuel:Nat}{l:List Value}{xd:DataW H×List MemPlace}(hsz:l.length=10)(hf:DataW.trod enc prog w 0 (fun _=>true) true fuel 124 l=some xd)
  (hw:∀q∈xd.1.weights prog 124,q≤reachBytes):∃x,zis w w.heap.size l x∧x.Small:=by
 match l,hsz with
 | [a0,a1,a2,a3,a4,a5,a6,a7,a8,a9],_=>
  obtain⟨N,k,_,F,_,h,d⟩:=DataW.trod_struct underlying124 hf;have f0:=d 0 _ rfl;have m:=d 1 _ rfl;have r:=d 2 _ rfl;have y:=d 3 _ rfl;have s:=d 4 _ rfl;simp[z8r,zdd,zt7,q2f,q2e] at f0 m r y s
  match N,h with
  | [y0,y1,y2,y3,y4],_=>
   rw[F] at hw;simp only[DataW.weights,underlying124,Yv,Vr,DataW.weightsEach,Ub,Ys] at hw;obtain⟨t,j,rfl,_⟩:=DataW.trod_string underlying9 f0;obtain⟨K,b,rfl⟩:=DataW.trod_bool underlying4 m;obtain⟨x,J,g⟩:=zvz rfl r (fun q B=>hw q (by simp[B]));obtain⟨P,E,a,D,z⟩:=q6h y rfl;obtain⟨n,p,rfl,f⟩:=DataW.trod_int underlying3 s;simp[Value.cells] at p j b a;subst p;subst j;subst b;obtain⟨rfl,rfl⟩:=a;obtain⟨A,c1,O,c2,L,G,u,I,C,M⟩:=J;simp at u;obtain⟨rfl,rfl,rfl,rfl,rfl⟩:=u;refine⟨⟨t,K,x,P,E,n⟩,⟨A,c1,O,c2,L,G,rfl,I,C,M⟩,⟨?_,g,D,z,bounds_i64 f⟩⟩;have:=hw t.data.toList.length (by simp[DataW.weights]);unfold reachBytes at this;have e:t.data.toList.length=t.size:=by simp
   show t.size≤_;omega
theorem q0b{fuel:Nat}{cs:List Value}{x:DataW H×List MemPlace}(h:DataW.trod enc prog w 0 (fun _=>true) true fuel 39 cs=some x)(hw:∀q∈x.1.weights prog 39,q≤reachBytes):
  ∃v l,cs=[v]∧z6d w w.heap.size v l∧l.length≤281474976710656∧∀x∈l,x.Small:=by
 rcases open_slice underlying39 h with⟨g,K⟩|⟨a,len,cap,m,n,D,Pl,g,_,hl,hm,hmm,e,hi⟩
 ·exact⟨.slice none 0 0,[],g,z6d.nil _ _,by simp,fun x e=>by cases e⟩
 ·rw[e] at hw;obtain⟨G,O⟩:=z4n underlying39 hw;simp only[if_true] at hmm;rw[zy4] at G;simp only[Xx,Ju] at G;unfold reachBytes at G;rw[zy9] at hi
  have z:∀i,i < len→∃q:List Value×Slt,q.1.length=10∧(∀j u,q.1[j]? = some u→w.cell? ((a.add (i * 10)).add j)=some u)∧zis w w.heap.size q.1 q.2∧q.2.Small:=by
   intro i C;obtain⟨A,g,P⟩:=hi i (by omega);obtain⟨_,t,F⟩:=World.cells?_some g;have K:=O (D i) (Yt.2 ⟨i,by simpa using C,rfl⟩);obtain⟨x,e,hs⟩:=q45 t P K;refine⟨(A,x),t,fun j u B=>?_,e,hs⟩;have T:j < A.length:=(Xe.1 B).1;have:=F j (by omega);rw[this];exact B
  obtain⟨l,E,y⟩:=zkf _ len z;subst E
  have d:∀c∈l.map (·.1),c.length=10:=fun c g=>by
   obtain⟨q,f,rfl⟩:=Yt.1 g;obtain⟨i,hi⟩:=Yd f;exact(y i q hi).1
  refine⟨.slice (some a) l.length cap,l.map (·.2),g,⟨some a,cap,l.map (·.1),by rw[Xx],by simp,fun i x e=>?_,?_⟩,by rw[Xx];omega,fun x e=>?_⟩
  ·rw[Uc] at e;obtain⟨q,f,rfl⟩:=Yr.1 e;exact⟨q.1,by rw[Uc,f];rfl,(y i q f).2.2.1⟩
  ·rw[Xx];rcases Yq l.length with h0|h0
   ·exact⟨_,_,rfl,by rw[ze1 10 _ d,Xx],hl,hm,fun h=>absurd h (by omega)⟩
   ·obtain⟨L,I⟩:∃p,l[0]? = some p:=⟨_,Xa h0⟩;have s:=y 0 L I;obtain⟨R,J⟩:∃u,L.1[0]? = some u:=⟨_,Xa (by rw[s.1];decide)⟩;have r:=s.2.1 0 R J;have N:(a.add (0 * 10)).add 0=a:=rfl;rw[N] at r;obtain⟨M,Q⟩:=z8q r;refine zbj (b:=a.block) (o:=a.off) (fun _=>by rw[←M]) (by rw[ze1 10 _ d,Xx]) hl hm (fun _=>Q) (fun j u B=>?_);obtain⟨i,k,cs,h3,h4,rfl,S⟩:=zjx 10 (by decide) _ j u d B;rw[Uc] at h3;obtain⟨q,f,rfl⟩:=Yr.1 h3;have:=(y i q f).2.1 k u S;rw[M,z6g,z6g,Yb] at this;exact this
  ·obtain⟨q,f,rfl⟩:=Yt.1 e;obtain⟨i,hi⟩:=Yd f;exact(y i q hi).2.2.2
theorem zw1{r:Reach}{b0:Nat}{v:Value}{d:DataW H}{p:List MemPlace}(hv:Value.okWide prog w r b0 42 v)(h:DataW.Trod enc prog w 0 (fun _=>true) true 42 v d p)
  (hw:∀q∈d.weights prog 42,q≤reachBytes):∃x,z5p w w.heap.size v x∧x.Small:=by
 obtain⟨z,rfl,e⟩:=okWide_struct underlying42 hv;obtain⟨l⟩:=z
 match l,e.trans zya with
 | [a0,a1],_=>
  obtain⟨s,C⟩:=h;obtain⟨E,k,_,n,_,a,g⟩:=DataW.trod_struct underlying42 C;have f0:=g 0 _ rfl;have j:=g 1 _ rfl;simp[zt9,zy8] at f0 j
  match E,a with
  | [y0,y1],_=>
   simp only[Prod.mk.injEq] at n;rw[n.1] at hw;simp only[DataW.weights,underlying42,Yv,Vr,DataW.weightsEach,Ub,Ys] at hw;obtain⟨J,F,m,D,y,B⟩:=q0b f0 (fun q b=>hw q (by simp[b]));obtain⟨A,c,t,f,u,I,G⟩:=q0a j (fun q b=>hw q (by simp[b]));simp[Value.cells] at m f;subst m;subst f;exact⟨⟨F,t⟩,⟨_,_,rfl,D,u⟩,⟨B,y,G,by show t.length≤_;omega⟩⟩
end
end
section
open Go.RowKit
def zfy(l:List Ent)(now:Int)(s:YY):Option Ent:=l.find? fun e=>decide (e.key=s)&&!z60 e.til now
def z00(l:List Ent)(now:Int)(s:YY):Ent:=(zfy l now s).getD newE
def z26(l:List Ent)(now:Int)(s:YY):Bool:=(zfy l now s).isSome
theorem zuz{l:List Ent}(hr:rises (ltK Ent.key) l=true){i j:Nat}{a b:Ent}(ha:l[i]? = some a)(hb:l[j]? = some b)(h:a.key=b.key):a=b:=by
 have d:=zgi Ent.key hr ha;have e:=zgi Ent.key hr hb;rw[h] at d;have:i=j:=by rw[←d,←e]
 subst this;rw[ha] at hb;exact Option.some.inj hb
theorem zzq{l:List Ent}(hr:rises (ltK Ent.key) l=true){i:Nat}{e:Ent}(he:l[i]? = some e)(now:Int):zfy l now e.key=if z60 e.til now=true then none else some e:=by
 unfold zfy;by_cases hg:z60 e.til now=true
 ·rw[Xf hg,Jf];intro x g a;obtain⟨j,b⟩:=Yd g;simp at a;have:=zuz hr b he a.1;rw[this,hg] at a;exact absurd a.2 (by decide)
 ·rw[Xc hg];rcases hf:l.find? (fun x=>decide (x.key=e.key)&&!z60 x.til now) with _|x
  ·have:=Jf.1 hf e (Xj he);simp at this;exact absurd this hg
  ·have d:=Kd hf;have f:=Jl hf;obtain⟨j,b⟩:=Yd f;simp at d;rw[hf,zuz hr b he d.1]
theorem q3k{l:List Ent}(hr:rises (ltK Ent.key) l=true){s:YY}(h:z4o Ent.key l s=false)(now:Int):zfy l now s=none:=by
 unfold zfy;rw[Jf];intro x b a;simp at a;obtain⟨j,d⟩:=Yd b;have:=ze4 Ent.key hr d;rw[a.1,h] at this;cases this
def set7(w:World)(o:Nat)(a b c d e f g:Value):World:=((((((w.setCell ⟨o,0,none⟩ a).setCell ⟨o,1,none⟩ b).setCell ⟨o,2,none⟩ c).setCell ⟨o,3,none⟩ d).setCell ⟨o,4,none⟩ e).setCell ⟨o,5,none⟩ f).setCell ⟨o,6,none⟩ g
theorem zbz{w wr:World}{o:Nat}(h:Fr [] w wr)(ho:w.heap.size≤o)(a b c d e f g):Fr [] w (set7 wr o a b c d e f g):=
 ((((((h.setCell (p:=⟨o,0,none⟩) (.inr ho) _).setCell (p:=⟨o,1,none⟩) (.inr ho) _).setCell (p:=⟨o,2,none⟩) (.inr ho) _).setCell (p:=⟨o,3,none⟩) (.inr ho) _).setCell (p:=⟨o,4,none⟩) (.inr ho) _).setCell (p:=⟨o,5,none⟩) (.inr ho) _).setCell (p:=⟨o,6,none⟩) (.inr ho) _
theorem zgn(a b):(z4i a b < 0∧ltS a b=true)∨(a=b∧ltS a b=false)∨(z4i b a < 0∧ltS a b=false):=by
 have d:=z78 a b;rcases Jh (z4i a b) 0 with h|h|h
 ·exact .inl ⟨h,Xi h⟩
 ·exact .inr (.inl ⟨za6 h,Xl (by omega)⟩)
 ·exact .inr (.inr ⟨by omega,Xl (by omega)⟩)
theorem q69{a b:YY}(h:z4i a b < 0):Op.bytesLess a.toList b.toList=true:=by rw[zke];exact Xi h
theorem zrp{l:List Ent}{j:Nat}(h:j < l.length):∃p,l[j]? = some p∧z8x l (j+1)=some p.key:=by
 refine⟨_,Xa h,?_⟩;unfold z8x;rw[Xc (by omega),Jq,Xa h];rfl
theorem zcg(s):z2v none s=false:=rfl
theorem z6i(k s):z2v (some k) s=!ltS k s:=rfl
theorem q34{p:Option YY}{e:Ent}(h:60 < e.key.size):z3o p e=2:=Xf h
theorem q33{p:Option YY}{e:Ent}(h:¬60 < e.key.size)(h2:z0a e.item≠0):z3o p e=z0a e.item:=by unfold z3o;rw[Xc h,Xf h2]
theorem q36{p:Option YY}{e:Ent}(h:¬60 < e.key.size)(h2:z0a e.item=0)(h3:z30 e.til=false):z3o p e=3:=by unfold z3o;rw[Xc h,Xc (fun a=>a h2),Xf h3]
theorem q35{p:Option YY}{e:Ent}(h:¬60 < e.key.size)(h2:z0a e.item=0)(h3:z30 e.til=true):z3o p e=if z2v p e.key=true then 4 else 0:=by unfold z3o;rw[Xc h,Xc (fun a=>a h2),Xc (by rw[h3];decide)]
def z6h(l:List Ent)(n:Int)(s:YY):Int:=if z1z l≠0 then z1z l else if z30 n=false then 3 else if 60 < s.size then 2 else 0
theorem atOk{l:List Ent}{n:Int}{s:YY}(h:z6h l n s=0):z1z l=0∧(0≤n∧n≤1000000)∧s.size≤60:=by
 unfold z6h at h;split at h
 ·rename_i h1;exact absurd h h1
 ·rename_i h1;split at h
  ·cases h
  ·rename_i h2;split at h
   ·cases h
   ·have a:z30 n=true:=by simpa using h2
    unfold z30 at a;exact⟨by simpa using h1,by simpa using a,by omega⟩
theorem z9v(l)(v)(w:World)(B:Nat)(hs:∀e∈l,e.Small)(hl:l.length≤281474976710656)(hB:B≤w.heap.size)(h:z1f w B v l):
  Calls prog 28 #[v] w fun e w'=>e=.returned (.int .i64 (z1z l))∧Fr [] w w':=by
 obtain⟨A,c,rfl⟩:=h.form;by_cases h16:16 < l.length;have u:=hid trivial
 all_goals
  first
  | (guard_hyp u
     have E:z1z l=2:=Xf h16;have q:(l.length:Int) > 16:=by omega
     rw[E];clear E h16 h)
  | (have q:¬(l.length:Int) > 16:=by omega
     have HV:=hid h;have Z:=hid hs;have E0:=hid (show z1z l=zse (z8x l 0) (l.drop 0) from Xc h16);have a0:l.length≤16:=by omega
     clear h hs h16)
  go_enter func28,ntmps28;go_wp2
  first
  | (guard_hyp u
     go_ret;exact⟨rfl,Fr.refl _ _⟩)
  | (go_loopg [11] l.length (fun g i wr=>∃(k:Nat),g=l.length - k∧k≤l.length∧i=.int .i64 k∧Hid (z1z l=zse (z8x l k) (l.drop k))∧Fr [] w wr)
     case atStart=>exact⟨0,rfl,Xt _,rfl,E0,Fr.refl _ _⟩
     case round=>
      obtain⟨k,rfl,hk,rfl,N,X⟩:=hrel;have a:=hid X;clear X;by_cases hlt:k < l.length
      ·obtain⟨b,off,rfl,R,hc,Q,F⟩:=HV.o.at_ (by omega);obtain⟨e,J⟩:∃e,l[k]? = some e:=⟨_,Xa hlt⟩;obtain⟨S,A2,V,c1,c2,Y,h7⟩:=F k e J;have L:=Xj J;have U:=hid (h7.fr a.o R hB (by simp));obtain⟨x0,x1,x2,x3,x4,x5,x6,-⟩:=U.o;have D:=(Z.o e L);have ab:=D.key;have n:=hid (N.o.trans (zun J));have y:=hid (fun W (hW:Fr [] wr W)=>z4g e.item _ W B D.item (Xd hB (Xd a.o.size hW.size)) ((U.o.ent.fr hW (Xd hB a.o.size) (by simp)).item))
       have d:=hid (fun(j:Nat) (p:Ent) (hj:l[j]? = some p)=>(show wr.cell? ⟨b,off+j * 7,none⟩=some (.string p.key) from by
        obtain⟨_,_,_,_,_,_,g7⟩:=F j p hj;exact(g7.fr a.o R hB (by simp)).k0))
       have f:=hid (fun(j:Nat) (p:Ent) (hj:l[j]? = some p)=>(Z.o p (Xj hj)).key);unfold maxLen at Q;clear F h7 J D N;have T:=hid (Whole.new wr 70 (yEl e S c1 A2 c2 V Y));have I:=hid ((Fr.refl [] wr).alloc (.cells (yEa e S c1 A2 c2 V Y) 70));by_cases h1:60 < e.key.size
       ·have E:=hid (show z1z l=2 from by rw[n.o,q34 h1,Xf (by decide)]);clear n y d f;have q1:decide (60 < e.key.size)=true:=Xi h1;go_wp2_with fail;refine(z3m e.key _).mono ?_;rintro e9 w9 ⟨rfl,s⟩;subst s;go_wp2;go_ret;rw[E.o];exact⟨rfl,a.o.trans I.o⟩
       ·have q1:decide (60 < e.key.size)=false:=Xl h1;by_cases h2:z0a e.item=0
        ·rw[h2] at y;by_cases h3:z30 e.til=true;have x:=hid trivial
         all_goals
          first
          | (guard_hyp x
             have G:=hid (q35 (p:=z8x l k) h1 h2 h3);have M:=h3;clear h1 h2 h3)
          | (have C:z30 e.til=false:=by simpa using h3
             have E:=hid (show z1z l=3 from by rw[n.o,q36 h1 h2 C,Xf (by decide)]);have M:=C;clear n d f h1 h2 h3 C)
          go_wp2_with fail;refine(z3m e.key _).mono ?_;rintro e9 w9 ⟨rfl,s⟩;subst s;go_wp2_with fail;refine(y.o _ I.o).mono ?_;rintro e2 w2 ⟨rfl,z⟩;have O:=hid (T.o.fr z (by simp));have m:=hid (I.o.trans z);obtain⟨y0,y1,y2,y3,y4,y5,y6⟩:=seven O.o;clear z;go_wp2_with fail;refine(z9m e.til _).mono ?_;rintro e3 w3 ⟨rfl,rfl⟩;rw[M];clear M
          first
          | (guard_hyp x
             rcases Yq k with hk0|hk0
             ·subst hk0;have P:Hid (z1z l=zse (z8x l (0+1)) (l.drop (0+1))):=hid (by rw[n.o,G.o,Xc (show ¬z2v (z8x l 0) e.key=true by rw[zrq,zcg];decide),Xc (by decide)]);clear n G y d f;go_wp2;go_quiet (fail);go_wp2;go_roundg (l.length - (0+1))
              case measure=>omega
              case rel=>exact⟨0+1,rfl,by omega,by go_num,P,by first|exact a.o.trans m.o|exact(a.o.trans m.o).drewN _|exact((a.o.trans m.o).drewN _).drewN _⟩
             ·obtain⟨j,rfl⟩:∃j,k=j+1:=⟨k - 1,by omega⟩;obtain⟨p,K,t⟩:=zrp (show j < l.length by omega);have m1:=m.o.cell (d.o j p K) (by simp);have a7:=f.o j p K;skip;have a6:IntKind.i64.wrap (((j+1:Nat):Int) - 1)=(j:Int):=by rw[IntKind.wrap_i64];omega
              have a2:IntKind.i64.wrap ((j:Int)+1 - 1)=(j:Int):=by rw[IntKind.wrap_i64];omega
              have aa:IntKind.i64.wrap (j:Int)=(j:Int):=by rw[IntKind.wrap_i64];omega
              have a5:(0:Int)≤(j:Int):=by omega
              have a3:(j:Int) < (l.length:Int):=by omega
              have a4:(0:Int)≤(j:Int)+1:=by omega
              have a8:(j:Int)+1 < (l.length:Int):=by omega
              have a9:((j:Int)+1).toNat=j+1:=by omega
              have a1:decide ((0:Int) < (j:Int)+1)=true:=Xi (by omega);rcases zgn p.key e.key with⟨ho,hlt3⟩|⟨ho,hlt3⟩|⟨ho,hlt3⟩
              ·have P:Hid (z1z l=zse (z8x l (j+1+1)) (l.drop (j+1+1))):=hid (by rw[n.o,G.o,Xc (show ¬z2v (z8x l (j+1)) e.key=true by rw[t,z6i,hlt3];decide),Xc (by decide)]);obtain⟨z1,z2⟩:=zpi ho;clear n G y d f K t ho hlt3;go_wp2;go_quiet (fail);go_wp2;go_roundg (l.length - (j+1+1))
               case measure=>omega
               case rel=>exact⟨j+1+1,rfl,by omega,by go_num,P,by first|exact a.o.trans m.o|exact(a.o.trans m.o).drewN _|exact((a.o.trans m.o).drewN _).drewN _⟩
              have H:=hid trivial
              all_goals
               have E:=hid (show z1z l=4 from by rw[n.o,G.o,Xf (show z2v (z8x l (j+1)) e.key=true by rw[t,z6i,hlt3];rfl),Xf (by decide)])
               first
               | (guard_hyp H
                  have z1:(e.key.toList==p.key.toList)=true:=by rw[ho];exact(zov e.key).1)
               | (have z1:=q69 ho)
               clear n G y d f K t ho hlt3;go_wp2;go_quiet (fail);go_wp2;go_ret;rw[E.o];exact⟨rfl,by first|exact a.o.trans m.o|exact(a.o.trans m.o).drewN _|exact((a.o.trans m.o).drewN _).drewN _⟩)
          | (go_wp2
             go_ret;rw[E.o];exact⟨rfl,a.o.trans m.o⟩)
        ·have E:=hid (show z1z l=z0a e.item from by rw[n.o,q33 h1 h2,Xf h2]);have q2:(z0a e.item != 0)=true:=by simpa using h2
         clear n d f h1 h2;generalize z0a e.item=r at *;go_wp2_with fail;refine(z3m e.key _).mono ?_;rintro e9 w9 ⟨rfl,s⟩;subst s;go_wp2_with fail;refine(y.o _ I.o).mono ?_;rintro e2 w2 ⟨rfl,z⟩;have O:=hid (T.o.fr z (by simp));have m:=hid (I.o.trans z);obtain⟨y0,y1,y2,y3,y4,y5,y6⟩:=seven O.o;clear z;go_wp2;go_ret;rw[E.o];exact⟨rfl,a.o.trans m.o⟩
      ·obtain rfl:k=l.length:=by omega
       have E:=hid (show z1z l=0 from by rw[N.o,Jc];rfl);go_wp2;go_ret;rw[E.o];exact⟨rfl,a.o⟩)
theorem zg5(l)(v)(n:Int)(s:YY)(w:World)(B:Nat)(hs:∀e∈l,e.Small)(hl:l.length≤281474976710656)(hz:s.size≤281474976710656)(hB:B≤w.heap.size)(h:z1f w B v l):
  Calls prog 256 #[v,.int .i64 n,.string s] w fun e w'=>e=.returned (.int .i64 (z6h l n s))∧Fr [] w w':=by
 have g:=hid (z9v l v w B hs hl hB h);have a:=hid (show z6h l n s=if z1z l≠0 then z1z l else if z30 n=false then 3 else if 60 < s.size then 2 else 0 from rfl);obtain⟨A,c,rfl⟩:=h.form;clear h hs;by_cases h1:z1z l=0
 ·rw[h1] at g a;rw[Xc (by decide)] at a;by_cases h2:z30 n=true
  ·rw[Xc (by rw[h2];decide)] at a;by_cases h3:60 < s.size;have d:=hid trivial
   all_goals
    first
    | (guard_hyp d
       have E:=hid (a.o.trans (Xf h3));have j:=h2;have t:decide (60 < s.size)=true:=Xi h3)
    | (have E:=hid (a.o.trans (Xc h3))
       have j:=h2;have t:decide (60 < s.size)=false:=Xl h3)
    rw[E.o];clear E a h1 h2 h3;go_enter func256,ntmps256;go_wp2_with fail;refine g.o.mono ?_;rintro e m ⟨rfl,f⟩;go_wp2_with fail;refine(z9m n _).mono ?_;rintro e u ⟨rfl,rfl⟩;rw[j];go_wp2_with fail;refine(z3m s _).mono ?_;rintro e x ⟨rfl,k⟩;subst k;go_wp2;go_ret;exact⟨rfl,f⟩
  ·have b:z30 n=false:=by simpa using h2
   have E:=hid (a.o.trans (Xf b));have j:=b;rw[E.o];clear E a h1 h2 b;go_enter func256,ntmps256;go_wp2_with fail;refine g.o.mono ?_;rintro e m ⟨rfl,f⟩;go_wp2_with fail;refine(z9m n _).mono ?_;rintro e u ⟨rfl,rfl⟩;rw[j];go_wp2;go_ret;exact⟨rfl,f⟩
 ·have E:=hid (a.o.trans (Xf h1));have y:(z1z l != 0)=true:=by simpa using h1
  have p:(z1z l==0)=false:=by simpa using h1
  rw[E.o];clear E a h1;generalize z1z l=r at *;go_enter func256,ntmps256;go_wp2_with fail;refine g.o.mono ?_;rintro e m ⟨rfl,f⟩;go_wp2;go_ret;exact⟨rfl,f⟩
theorem zgc(k s)(b c d e f g h i j)(w):Calls prog 240 (#[.agg #[.string k,b,c,d,e,f,g,h,i,j],.string s]++#[]) w fun e w'=>e=.returned (.int .i64 (z4i k s))∧Fr [] w w':=by
 have a:=hid ((Fr.refl [] w).alloc (.cells #[.string k,b,c,d,e,f,g,h,i,j] 124));go_enter func240,ntmps240;go_wp2_with fail;refine(z5w k s _).mono ?_;rintro e l ⟨rfl,rfl⟩;go_wp2;go_ret;exact⟨rfl,a.o⟩
theorem zy1(l:List Slt)(s:YY)(A)(c B:Nat)(w:World)(hr:rises (ltK Slt.key) l=true)(hl:l.length≤281474976710656)(hB:B≤w.heap.size)(h:z6d w B (.slice A l.length c) l):
  Calls prog 239 #[.slice A l.length c,.string s,.func (Fn.func 240) #[] #[]] w (z3e (z1e Slt.key l s) (z4o Slt.key l s) w):=by
 have S:=hid h;have y:=z63 Slt.key l s;have HR:=hid hr;clear h hr;have eg:=z1b func240 (by kernel_rfl) rfl;go_enter func239,ntmps239;go_wp2;go_loopg [9,10] l.length (fun g Z P wr=>∃(p hi:Nat),g=hi - p∧Z=.int .i64 p∧P=.int .i64 hi∧p≤z1e Slt.key l s∧z1e Slt.key l s≤hi∧hi≤l.length∧Fr [] w wr)
 case atStart=>exact⟨0,l.length,rfl,rfl,rfl,Xt _,y,Xb _,Fr.refl _ _⟩
 case round=>
  obtain⟨p,hi,rfl,rfl,rfl,K,H,h3,Q⟩:=hrel;have u:=hid Q;clear Q;by_cases hlt:p < hi
  ·obtain⟨m,T⟩:∃m,m=(p+hi) / 2:=⟨_,rfl⟩;have O:m < l.length:=by omega
   obtain⟨b,off,rfl,I,hc,L,a⟩:=S.o.at_ (by omega);obtain⟨q,r⟩:∃q,l[m]? = some q:=⟨_,Xa O⟩;obtain⟨A1,A2,A3,c1,c2,c3,C⟩:=a m q r;obtain⟨U,x1,x2,Y,V,x5,x6,x7,x8,x9,-⟩:=C.fr u.o I hB (by simp);have M:((p:Int)+(hi:Int)) / 2=(m:Int):=by omega
   have X:=hid T
   have t:(z4i q.key s < 0→m < z1e Slt.key l s)∧(¬z4i q.key s < 0→z1e Slt.key l s≤m):=⟨fun h=>by
    rcases Yc m (z1e Slt.key l s) with h'|h'
    ·exact h'
    ·exact absurd h (zel Slt.key HR.o h' r),fun h=>by
    rcases Yc m (z1e Slt.key l s) with h'|h'
    ·exact absurd (z7s Slt.key h' r) h
    ·exact h'⟩
   have N:=hid t;have G:=hid (fun W b c d e f g h i j=>zgc q.key s b c d e f g h i j W);clear a C r t T;generalize z4i q.key s=o at *;by_cases ho:o < 0;have k:=hid trivial
   all_goals
    first
    | (guard_hyp k
       have E:=N.o.1 ho)
    | (have E:=N.o.2 ho)
    clear N;go_wp2_with fail;refine(G.o _ _ _ _ _ _ _ _ _ _).mono ?_;rintro e w2 ⟨rfl,F⟩;clear M;go_wp2
    first
    | (guard_hyp k
       go_roundg (hi - (m+1)))
    | (go_roundg (m - p))
    case measure=>have:=X.o;omega
    first
    | (guard_hyp k
       case rel=>exact⟨m+1,hi,rfl,by go_num,rfl,by omega,H,h3,u.o.trans F⟩)
    | (case rel=>exact⟨p,m,rfl,rfl,rfl,K,E,by omega,u.o.trans F⟩)
  ·obtain rfl:hi=p:=by omega
   obtain⟨J,n⟩:∃J,J=z1e Slt.key l s:=⟨_,rfl⟩;obtain rfl:hi=J:=by omega
   have R:=hid n;by_cases E:hi < l.length
   ·obtain⟨b,off,rfl,I,hc,L,a⟩:=S.o.at_ (by omega);obtain⟨q,r⟩:∃q,l[hi]? = some q:=⟨_,Xa E⟩;obtain⟨A1,A2,A3,c1,c2,c3,C⟩:=a hi q r;obtain⟨U,x1,x2,Y,V,x5,x6,x7,x8,x9,-⟩:=C.fr u.o I hB (by simp);have G:=hid (fun W b c d e f g h i j=>zgc q.key s b c d e f g h i j W);have x:=hid (show z4o Slt.key l s=decide (z4i q.key s=0) from by unfold z4o;rw[←n,r]);clear a C r n K H;generalize z4i q.key s=o at *;by_cases ho:o=0;have D:=hid trivial
    all_goals
     first
     | (guard_hyp D
        subst ho;have z:=hid (x.o.trans (Xi rfl));clear x)
     | (have q1:(o==0)=false:=by simpa using ho
        have z:=hid (x.o.trans (Xl ho));clear ho x)
     go_wp2_with fail;refine(G.o _ _ _ _ _ _ _ _ _ _).mono ?_;rintro e w2 ⟨rfl,F⟩;go_wp2;go_ret2;refine⟨?_,u.o.trans F⟩;rw[←R.o,z.o];rfl
   ·have x:=hid (show z4o Slt.key l s=false from by unfold z4o;rw[←n,Uj (by omega)]);clear K H n;go_wp2;go_ret2;refine⟨?_,u.o⟩;rw[←R.o,x.o];rfl
theorem zjw(l:List Slt)(s:YY)(A)(c B:Nat)(u:Value)(w:World)(hr:rises (ltK Slt.key) l=true)(hl:l.length≤281474976710656)(hB:B≤w.heap.size)(h:z6d w B (.slice A l.length c) l):
  Calls prog 168 #[.agg #[.slice A l.length c,u],.string s] w (z3e (z1e Slt.key l s) (z4o Slt.key l s) w):=by
 have a:=hid ((Fr.refl [] w).alloc (.cells #[.slice A l.length c,u] 42));have I:=hid (zy1 l s A c B (w.alloc (.cells #[.slice A l.length c,u] 42)) hr hl (Xd hB a.o.size) (h.fr a.o hB (by simp)));clear h;unfold z3e at I ⊢;go_enter func168,ntmps168;go_wp2_with fail;refine I.o.mono ?_;rintro e d ⟨rfl,b⟩;go_wp2;go_ret2;exact⟨rfl,a.o.trans b⟩
end
end Go.Proofs.YtnmoajaelmimnaaGreatDoor
