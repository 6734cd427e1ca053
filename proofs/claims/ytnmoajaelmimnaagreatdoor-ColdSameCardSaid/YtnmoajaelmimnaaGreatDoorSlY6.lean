/- Contracts; no condition but each theorem's own. -/
import Derived.Test.YtnmoajaelmimnaaGreatDoorSlY5
import Derived.ChangeAlike
import Derived.Deep.DeepLaidRun
import Derived.Lib.AppendZeros
import Derived.Lib.AppendZerosOnto
import Derived.Lib.IndexMore
import Derived.Lib.LaidTab
import Derived.StillTailTactics
import Derived.Stop.ErrReads
import Derived.Stop.LaidErr
import Derived.Test.YtnmoajaelmimnaaGreatDoorRows
set_option linter.unusedVariables false
set_option linter.unusedSimpArgs false
set_option maxHeartbeats 8000000
set_option maxRecDepth 100000
namespace Go.Proofs.YtnmoajaelmimnaaGreatDoor
open Go.Proofs.Tryz
structure Rp1 where
 kind:Int
 text:YY
 n:Int
 sub:Nat
structure Rep where
 kind:Int
 text:YY
 n:Int
 list:List Rp1
abbrev yRa(x:Rep)(A:YV)(a:Nat):Array Value:=#[.int .i64 x.kind,.string x.text,.int .i64 x.n,.slice A x.list.length a]
abbrev yRl(x:Rep)(A:YV)(a:Nat):List Value:=[.int .i64 x.kind,.string x.text,.int .i64 x.n,.slice A x.list.length a]
abbrev yRza:Array Value:=#[.int .i64 0,.string ⟨#[]⟩,.int .i64 0,.slice none 0 0]
abbrev yRzl:List Value:=[.int .i64 0,.string ⟨#[]⟩,.int .i64 0,.slice none 0 0]
abbrev yRc(w:World)(p:Nat)(x:Rep)(A:YV)(a:Nat):Prop:=w.cell? ⟨p,0,none⟩=some (.int .i64 x.kind)∧w.cell? ⟨p,1,none⟩=some (.string x.text)∧w.cell? ⟨p,2,none⟩=some (.int .i64 x.n)∧w.cell? ⟨p,3,none⟩=some (.slice A x.list.length a)
def Rep.one(r:Rep):Rp1:=⟨r.kind,r.text,r.n,r.list.length⟩
def zeroR:Rep:=⟨0,⟨#[]⟩,0,[]⟩
def wordB(c:Nat):Bool:=(decide (97≤c)&&decide (c≤122))||(decide (65≤c)&&decide (c≤90))||(decide (48≤c)&&decide (c≤57))||decide (c=32)
def q4x(s:YY):Bool:=s.data.toList.all fun c=>wordB c.toNat
def z3z(x:Rp1):Int:=
 if ¬(1≤x.kind∧x.kind≤5) then 7
 else if (x.kind≠1∧x.kind≠4∧x.text.size≠0)∨(x.kind≠2∧x.kind≠3∧x.n≠0)∨0 < x.sub then 1
 else if x.kind=1 then (if 20 < x.text.size then 2 else if x.text.size=0 then 1 else if q4x x.text=true then 0 else 1)
 else if x.kind=2 then (if 1≤x.n∧x.n≤8 then 0 else 3)
 else if x.kind=3 then (if z0o x.n=true then 0 else 3)
 else if x.kind=4 then (if 60 < x.text.size then 2 else 0)
 else 0
def z99:List Rp1→Int
 | []=>0
 | x :: l=>if z3z x≠0 then z3z x else z99 l
def z1h(r:Rep):Int:=
 if r.kind≠6 then z3z r.one
 else if r.text.size≠0∨r.n≠0 then 1
 else if 300 < r.list.length then 2
 else z99 r.list
theorem zeh:∀ {l:List Rp1},z99 l=0→∀x∈l,z3z x=0
 | [],_,x,h=>by cases h
 | y :: l,hc,x,h=>by
  unfold z99 at hc;by_cases hy:z3z y=0
  ·rw[Xc (by simpa using hy)] at hc;rcases Yh.1 h with rfl|h
   ·exact hy
   ·exact zeh hc x h
  ·rw[Xf hy] at hc;exact absurd hc hy
theorem zeg:∀ {l:List Rp1},(∀x∈l,z3z x=0)→z99 l=0
 | [],_=>rfl
 | y :: l,h=>by
  unfold z99;rw[Xc (by simpa using h y (by simp))];exact zeg fun x hx=>h x (by simp[hx])
structure zso(x:Rp1):Prop where
 kind:1≤x.kind∧x.kind≤5
 sub:x.sub=0
 text:x.kind≠1→x.kind≠4→x.text=⟨#[]⟩
 num:x.kind≠2→x.kind≠3→x.n=0
 word:x.kind=1→x.text.size≤20∧x.text.size≠0∧q4x x.text=true
 err:x.kind=2→1≤x.n∧x.n≤8
 int:x.kind=3→z0o x.n=true
 bytes:x.kind=4→x.text.size≤60
theorem nilB{t:YY}(h:t.size=0):t=⟨#[]⟩:=by
 apply ByteArray.ext;exact Ja h
theorem zl5{x:Rp1}(h:z3z x=0):zso x:=by
 unfold z3z at h;by_cases hk:1≤x.kind∧x.kind≤5
 ·rw[Xc (fun d=>d hk)] at h;by_cases hb:(x.kind≠1∧x.kind≠4∧x.text.size≠0)∨(x.kind≠2∧x.kind≠3∧x.n≠0)∨0 < x.sub
  ·rw[Xf hb] at h;exact absurd h (by decide)
  ·rw[Xc hb] at h
   have hs:x.sub=0:=by
    rcases Yq x.sub with h0|h0
    ·exact h0
    ·exact absurd (.inr (.inr h0)) hb
   refine⟨hk,hs,fun a h4=>?_,fun b h3=>?_,fun a=>?_,fun b=>?_,fun h3=>?_,fun h4=>?_⟩
   ·apply nilB;by_cases hz:x.text.size=0
    ·exact hz
    ·exact absurd (.inl ⟨a,h4,hz⟩) hb
   ·by_cases hz:x.n=0
    ·exact hz
    ·exact absurd (.inr (.inl ⟨b,h3,hz⟩)) hb
   ·rw[Xf a] at h;by_cases h20:20 < x.text.size
    ·rw[Xf h20] at h;exact absurd h (by decide)
    ·rw[Xc h20] at h;by_cases h0:x.text.size=0
     ·rw[Xf h0] at h;exact absurd h (by decide)
     ·rw[Xc h0] at h;by_cases hw:q4x x.text=true
      ·exact⟨by omega,h0,hw⟩
      ·rw[Xc hw] at h;exact absurd h (by decide)
   ·rw[Xc (by omega),Xf b] at h;by_cases hr:1≤x.n∧x.n≤8
    ·exact hr
    ·rw[Xc hr] at h;exact absurd h (by decide)
   ·rw[Xc (by omega),Xc (by omega),Xf h3] at h;by_cases hr:z0o x.n=true
    ·exact hr
    ·rw[Xc hr] at h;exact absurd h (by decide)
   ·rw[Xc (by omega),Xc (by omega),Xc (by omega),Xf h4] at h;by_cases hr:60 < x.text.size
    ·rw[Xf hr] at h;exact absurd h (by decide)
    ·omega
 ·rw[Xf hk] at h;exact absurd h (by decide)
theorem zwi{r:Rep}(h:z1h r=0):(r.kind≠6∧zso r.one∧r.list=[])∨(r.kind=6∧r.text=⟨#[]⟩∧r.n=0∧r.list.length≤300∧∀x∈r.list,zso x):=by
 unfold z1h at h;by_cases hk:r.kind=6
 ·rw[Xc (fun b=>b hk)] at h;by_cases hb:r.text.size≠0∨r.n≠0
  ·rw[Xf hb] at h;exact absurd h (by decide)
  ·rw[Xc hb] at h;by_cases hl:300 < r.list.length
   ·rw[Xf hl] at h;exact absurd h (by decide)
   ·rw[Xc hl] at h;refine .inr ⟨hk,nilB ?_,?_,by omega,fun x a=>zl5 (zeh h x a)⟩
    ·by_cases hz:r.text.size=0
     ·exact hz
     ·exact absurd (.inl hz) hb
    ·by_cases hz:r.n=0
     ·exact hz
     ·exact absurd (.inr hz) hb
 ·rw[Xf hk] at h;have:=zl5 h;exact .inl ⟨hk,this,Xo this.sub⟩
section
open Go.RowKit
attribute [local go_sem] z1g
end
section
open Go.RowKit Go.ChangeShapes
abbrev zpc:List (String×DataW Unit):=Rows.coldTellsRow.laid
theorem star : "*" ++ "errors.errorString" = "*errors.errorString" := by decide
theorem zx6(u:TypeId)(h:prog.typeName? 3 u=some "*errors.errorString"):u=302:=
 typeName_ptr_named (nm := "errors.errorString") (by rw[star];kernel_rfl) (by kernel_rfl) (by decide) u (by rw[star];exact h)
theorem q7h{W:World}(h:laidMetH prog zpc W):Vars W:=by
 have d:=laidMet.tail (laidMet.tail h);have h3:=laidMet.tail d;have h4:=laidMet.tail h3;have t:=Lib.tabIs_of_head (P:=prog) (name := "internal/strconv.uint64pow10") (k:=.u64) (zs:=Lib.pow10Tab) (g:=3) (t:=306) (e:=275) (n:=20) (by kernel_rfl) (by kernel_rfl) (by kernel_rfl) (by kernel_rfl) (by kernel_rfl) (by kernel_rfl) d;obtain⟨j,m,b,_⟩:=laid_sentinel h3 (g:=2) (ti:=155) (tp:=302) (te:=304) (ts:=9) (by kernel_rfl) (by kernel_rfl) underlying155 zx6 underlying302 underlying304 rfl rfl (by kernel_rfl) (by kernel_rfl) (by kernel_rfl);obtain⟨l,f,a,_⟩:=laid_sentinel h4 (g:=1) (ti:=155) (tp:=302) (te:=304) (ts:=9) (by kernel_rfl) (by kernel_rfl) underlying155 zx6 underlying302 underlying304 rfl rfl (by kernel_rfl) (by kernel_rfl) (by kernel_rfl);exact⟨t,⟨_,_,a⟩,⟨_,_,b⟩⟩
noncomputable def low:Nat:=(World.holding prog default ⟨#[],#[],[]⟩).heap.size
def put(h:Array Obj)(g:Nat)(cs:Array Value):Array Obj:=h.modify g fun
 | .cells _ t frozen=>.cells cs t frozen
 | o=>o
def tab32:List Int:=[0,1,28,2,29,14,24,3,30,22,20,15,25,17,4,8,31,27,13,23,21,19,16,7,26,12,18,6,11,5,10,9]
def tab64:List Int:=[0,1,56,2,57,49,28,3,61,58,42,50,38,29,17,4,62,47,59,36,45,43,51,22,53,39,33,30,24,18,12,5,63,55,48,27,60,41,37,16,46,35,44,21,52,32,23,11,54,26,40,15,34,20,31,10,25,14,19,9,13,8,7,6]
noncomputable def zee(os:Os):World:=
 let w0:=World.holding prog os ⟨#[.cells #[.string ⟨#[118,97,108,117,101,32,111,117,116,32,111,102,32,114,97,110,103,101]⟩] 304,.cells #[.string ⟨#[105,110,118,97,108,105,100,32,115,121,110,116,97,120]⟩] 304],#[],[]⟩
 let h1:=put w0.heap 2 #[.iface 302 (.pointer (some ⟨low,0,none⟩))]
 let h2:=put h1 1 #[.iface 302 (.pointer (some ⟨low+1,0,none⟩))]
 let h3:=put h2 3 (Lib.pow10Tab.map fun z=>Value.int .u64 z).toArray
 let h4:=put h3 4 (tab32.map fun z=>Value.int .u8 z).toArray
 let h5:=put h4 5 (tab64.map fun z=>Value.int .u8 z).toArray
 { w0 with heap:=h5 }
theorem zzn(os:Os)(args:Array Value):laidMet prog zpc ((zee os).forCall (fun _ _=>0) ⟨#[],args,[]⟩).memory:=
 laidMet_of_run3 8 (by kernel_rfl) (by kernel_rfl) (by kernel_rfl)
end
section
open Go.RowKit
def z0v(x:Itm):Bool:=x.kind==0&&z6q x
def z02(k:Int)(x:Itm):Int:=if z0v x=true then 0 else if z0a x=0 then (if x.kind=k then 0 else 7) else z0a x
theorem z7u(x:Itm)(v)(w:World)(B:Nat)(hs:x.Small)(hB:B≤w.heap.size)(h:z0p w B v x):
  Calls prog 138 #[v] w fun e w'=>e=.returned (.bool (z0v x))∧Fr [] w w':=by
 have j:=hid (fun W (hf:Fr [] w W)=>zob x v W B hs (h.fr hf hB (by simp)));obtain⟨f,c1,l,c2,g,p,rfl,s,n,h3⟩:=h;have d:Fr [] w (w.alloc (.cells #[.int .i64 x.kind,.string x.text,.slice f x.list.length c1,.slice l x.pairs.length c2,.slice g x.scores.length p] 68)):=(Fr.refl [] w).alloc _;have a:z0v x=(x.kind==0&&z6q x):=rfl;clear s n h3 hs;generalize z0v x=r at *;generalize z6q x=b at *;generalize x.list.length=u at *;generalize x.pairs.length=y at *;generalize x.scores.length=z at *;generalize x.kind=k at *;by_cases hk:k=0
 ·subst hk;rw[show((0:Int)==0)=true from rfl,Vk] at a;subst a;go_enter func138,ntmps138;go_wp2_with fail;refine(j.o _ d).mono ?_;rintro e t ⟨rfl,m⟩;go_wp2;go_ret;exact⟨rfl,d.trans m⟩
 ·have q:(k==0)=false:=by simpa using hk
  rw[q,Uz] at a;subst a;clear hk;go_enter func138,ntmps138;go_wp2;go_ret;exact⟨rfl,d⟩
theorem zj0(x:Itm)(k:Int)(v)(w:World)(B:Nat)(hs:x.Small)(hB:B≤w.heap.size)(h:z0p w B v x):
  Calls prog 301 #[v,.int .i64 k] w fun e w'=>e=.returned (.int .i64 (z02 k x))∧Fr [] w w':=by
 have C:=hid (fun W (hf:Fr [] w W)=>z7u x v W B hs (Xd hB hf.size) (h.fr hf hB (by simp)));have H:=hid (fun W (hf:Fr [] w W)=>z4g x v W B hs (Xd hB hf.size) (h.fr hf hB (by simp)));obtain⟨z,c1,F,c2,E,D,rfl,J,I,h3⟩:=h;have l:Fr [] w (w.alloc (.cells #[.int .i64 x.kind,.string x.text,.slice z x.list.length c1,.slice F x.pairs.length c2,.slice E x.scores.length D] 68)):=(Fr.refl [] w).alloc _;have A:=hid (show Whole (w.alloc (.cells #[.int .i64 x.kind,.string x.text,.slice z x.list.length c1,.slice F x.pairs.length c2,.slice E x.scores.length D] 68)) w.heap.size 68 [.int .i64 x.kind,.string x.text,.slice z x.list.length c1,.slice F x.pairs.length c2,.slice E x.scores.length D] from Whole.new w _ _);have a:z02 k x=if z0v x=true then 0 else if z0a x=0 then (if x.kind=k then 0 else 7) else z0a x:=rfl
 clear J I h3 hs;generalize z02 k x=r at *;generalize z0v x=b at *;generalize z0a x=c at *;generalize x.list.length=N at *;generalize x.pairs.length=O at *;generalize x.scores.length=M at *;generalize x.kind=j at *;obtain⟨n,m,f,g,p⟩:=five A.o;cases b
 ·rw[Xc (by decide)] at a;by_cases hc:c=0
  ·subst hc;rw[Xf rfl] at a;by_cases hj:j=k;have s:=hid trivial
   all_goals
    first
    | (guard_hyp s
       subst hj;rw[Xf rfl] at a;subst a;have q:(j != j)=false:=by simp)
    | (rw[Xc hj] at a
       subst a;have q:(j != k)=true:=by simpa using hj
       clear hj)
    go_enter func301,ntmps301;go_wp2_with fail;refine(C.o _ l).mono ?_;rintro e G ⟨rfl,d⟩;have t:=l.trans d;have u:=hid (A.o.fr d (by simp));clear n m f g p;obtain⟨n,m,f,g,p⟩:=five u.o;go_wp2_with fail;refine(H.o _ t).mono ?_;rintro e L ⟨rfl,y⟩;have K:=hid (u.o.fr y (by simp));clear n m f g p;obtain⟨n,m,f,g,p⟩:=five K.o;go_wp2;go_ret;exact⟨rfl,t.trans y⟩
  ·rw[Xc hc] at a;subst a;have q:(r != 0)=true:=by simpa using hc
   clear hc;go_enter func301,ntmps301;go_wp2_with fail;refine(C.o _ l).mono ?_;rintro e G ⟨rfl,d⟩;have t:=l.trans d;have u:=hid (A.o.fr d (by simp));clear n m f g p;obtain⟨n,m,f,g,p⟩:=five u.o;go_wp2_with fail;refine(H.o _ t).mono ?_;rintro e L ⟨rfl,y⟩;go_wp2;go_ret;exact⟨rfl,t.trans y⟩
 ·rw[Xf rfl] at a;subst a;go_enter func301,ntmps301;go_wp2_with fail;refine(C.o _ l).mono ?_;rintro e G ⟨rfl,d⟩;go_wp2;go_ret;exact⟨rfl,l.trans d⟩
theorem zko(x):z0v x=(x.kind==0&&(x.text.size==0&&many x==0)):=by
 unfold z0v;by_cases hk:x.kind=0
 ·rw[hk];unfold z6q many;rw[hk];generalize x.text.size=a;generalize x.list.length=b;generalize x.pairs.length=e;generalize x.scores.length=d;rw[Va];simp;omega
 ·have q:(x.kind==0)=false:=by simpa using hk
  rw[q,Uz,Uz]
theorem z6s{w wr:World}{o:Nat}(h:Fr [] w wr)(ho:w.heap.size≤o)(a b c d e):Fr [] w (set5 wr o a b c d e):=
 ((((h.setCell (p:=⟨o,0,none⟩) (.inr ho) _).setCell (p:=⟨o,1,none⟩) (.inr ho) _).setCell (p:=⟨o,2,none⟩) (.inr ho) _).setCell (p:=⟨o,3,none⟩) (.inr ho) _).setCell (p:=⟨o,4,none⟩) (.inr ho) _
def zho(l:YX):Itm:=⟨2,⟨#[]⟩,l,[],[]⟩
def z1a(l:YX):Int:=if l.length=0 then 1 else if l.any z5a=true then 2 else 0
structure zbn{α:Type}(P:Value→α→Prop)(vs:List Value)(l:List α):Prop where
 len:vs.length=l.length
 at_:∀(i:Nat) (x:α),l[i]? = some x→∃v,vs[i]? = some v∧P v x
theorem zbn.nil{α:Type}{P:Value→α→Prop}:zbn P [] []:=⟨rfl,fun i x h=>by simp at h⟩
theorem zbn.imp{α:Type}{P Q:Value→α→Prop}{vs:List Value}{l:List α}(h:zbn P vs l)(hi:∀v x,P v x→Q v x):zbn Q vs l:=
 ⟨h.len,fun i x hx=>by
  obtain⟨v,h1,h2⟩:=h.at_ i x hx;exact⟨v,h1,hi _ _ h2⟩⟩
theorem zbn.append{α:Type}{P:Value→α→Prop}{vs us:List Value}{l m:List α}(h:zbn P vs l)(k:zbn P us m):zbn P (vs++us) (l++m):=
 ⟨by simp[h.len,k.len],fun i x hx=>by
  rcases Yc i l.length with h1|h1
  ·rw[Xu h1] at hx;obtain⟨v,h2,h3⟩:=h.at_ i x hx;exact⟨v,by rw[Xu (by rw[h.len];exact h1)];exact h2,h3⟩
  ·rw[Xq h1] at hx;obtain⟨v,h2,h3⟩:=k.at_ _ x hx;exact⟨v,by rw[Xq (by rw[h.len];exact h1),h.len];exact h2,h3⟩⟩
theorem zbn.one{α:Type}{P:Value→α→Prop}{v:Value}{x:α}(h:P v x):zbn P [v] [x]:=
 ⟨rfl,fun i y hy=>by
  cases i with
  | zero=>simp at hy;subst hy;exact⟨v,rfl,h⟩
  | succ i=>simp at hy⟩
theorem zbn.snoc{α:Type}{P:Value→α→Prop}{vs:List Value}{l:List α}{v:Value}{x:α}(h:zbn P vs l)(hv:P v x):zbn P (vs++[v]) (l++[x]):=h.append (zbn.one hv)
theorem zbn.mem{α:Type}{P:Value→α→Prop}{vs:List Value}{l:List α}(h:zbn P vs l){v:Value}(hv:v∈vs):∃x,x∈l∧P v x:=by
 obtain⟨i,hi⟩:=Yd hv;have a:=(Xe.1 hi).1;obtain⟨u,b,d⟩:=h.at_ i _ (Xa (show i < l.length by rw[←h.len];exact a));rw[hi] at b;cases b;exact⟨_,Vj _,d⟩
def TxV(w:World)(B:Nat)(v:Value)(l:YX):Prop:=∃A c,v=.slice A l.length c∧Sl w B 1 (.slice A l.length c) l.length (z03 l)
def TxO(w:World)(base:Nat)(v:Value)(l:YX):Prop:=w.ownsRow base 9 1 v l.length (z03 l)
theorem TxV.fr{w w':World}{B:Nat}{S:List Nat}{v:Value}{l:YX}(h:TxV w B v l)(hf:Fr S w w')(hB:B≤w.heap.size)(hS:∀k,k∈S→B≤k):TxV w' B v l:=by
 obtain⟨A,c,e,h⟩:=h;exact⟨A,c,e,h.fr hf hB hS⟩
theorem TxV.more{w:World}{B B':Nat}{v:Value}{l:YX}(h:TxV w B v l)(hB:B≤B'):TxV w B' v l:=by
 obtain⟨A,c,e,h⟩:=h;exact⟨A,c,e,h.more hB⟩
theorem TxO.v{w:World}{base:Nat}{v:Value}{l:YX}(h:TxO w base v l):TxV w w.heap.size v l:=by
 obtain⟨A,c,rfl,-⟩:=z05 h;exact⟨A,c,rfl,z0l h⟩
theorem TxV.one{w:World}{B:Nat}{v:Value}{l:YX}(h:TxV w B v l):v.oneCell'=true:=by obtain⟨A,c,rfl,-⟩:=h;rfl
theorem TxO.one{w:World}{B:Nat}{v:Value}{l:YX}(h:TxO w B v l):v.oneCell'=true:=h.v.one
def z5g(w:World)(B:Nat)(v:Value)(ls:List YX):Prop:=∃A c,∃vs:List Value,v=.slice A ls.length c∧zbn (TxV w B) vs ls∧Sl w B 1 v ls.length vs
def q26(w:World)(base:Nat)(v:Value)(ls:List YX):Prop:=∃vs:List Value,zbn (TxO w base) vs ls∧w.ownsRow base 24 1 v ls.length vs
theorem z5g.form{w:World}{B:Nat}{v:Value}{ls:List YX}(h:z5g w B v ls):∃A c,v=.slice A ls.length c:=by obtain⟨A,c,a,rfl,_⟩:=h;exact⟨A,c,rfl⟩
theorem q26.v{w:World}{base:Nat}{v:Value}{ls:List YX}(h:q26 w base v ls):z5g w w.heap.size v ls:=by
 obtain⟨b,hr,a⟩:=h;obtain⟨A,c,rfl,-⟩:=z05 a;exact⟨A,c,b,rfl,hr.imp (fun _ _ h=>h.v),z0l a⟩
theorem z5g.fr{w w':World}{B:Nat}{S:List Nat}{v:Value}{ls:List YX}(h:z5g w B v ls)(hf:Fr S w w')(hB:B≤w.heap.size)(hS:∀k,k∈S→B≤k):z5g w' B v ls:=by
 obtain⟨A,c,a,e,hr,hs⟩:=h;exact⟨A,c,a,e,hr.imp (fun _ _ h=>h.fr hf hB hS),hs.fr hf hB hS⟩
theorem z5g.more{w:World}{B B':Nat}{v:Value}{ls:List YX}(h:z5g w B v ls)(hB:B≤B'):z5g w B' v ls:=by
 obtain⟨A,c,a,e,hr,hs⟩:=h;exact⟨A,c,a,e,hr.imp (fun _ _ h=>h.more hB),hs.more hB⟩
theorem z5g.nil(w)(B:Nat):z5g w B (.slice none 0 0) []:=⟨none,0,[],rfl,zbn.nil,Sl.nil _ _ _⟩
theorem q4u:9≠24:=by decide
theorem TxO.grown{w w':World}{base base' n:Nat}{v x:Value}{l:YX}{xs:List Value}(h:TxO w base x l)(ho:w.ownsRow base' 24 1 v n xs)(hg:w.grownBy w' v.ownBlock):TxO w' base x l:=
 z08 h (z1u hg) (fun k hk hm=>by
  rcases z7v h ho q4u with h1|h1
  ·rw[h1] at hk;cases hk
  ·refine h1 ?_;rw[hk];unfold z1w at hm;split at hm
   ·simp at hm;subst hm;rfl
   ·cases hm)
theorem z5g.at_{w:World}{B:Nat}{A:YV}{c:Nat}{ls:List YX}(h:z5g w B (.slice A ls.length c) ls)(hn:0 < ls.length):
  ∃b off,A=some ⟨b,off,none⟩∧b < B∧ls.length≤c∧c≤maxLen∧∀(i:Nat) (l:YX),ls[i]? = some l→∃A1 c1,w.cell? ⟨b,off+i,none⟩=some (.slice A1 l.length c1)∧Sl w B 1 (.slice A1 l.length c1) l.length (z03 l):=by
 obtain⟨r,p,n,e,hr,hs⟩:=h;cases e;obtain⟨b,off,rfl,k,m,d,a⟩:=hs.at_ hn;refine⟨b,off,rfl,k,m,d,fun i l f=>?_⟩;obtain⟨v,j,A1,c1,rfl,g⟩:=hr.at_ i l f;exact⟨A1,c1,a i _ j,g⟩
theorem zi5:(prog.info? 24).map (fun i=>(i.zero,i.size,i.bytes))=some (some (.slice none 0 0),1,24):=by kernel_rfl
theorem z4s(n:Nat)(xs)(A)(c:Nat)(w:World)(B:Nat)(hl:n≤1000000)(hB:B≤w.heap.size)(h:Sl w B 1 (.slice A n c) n xs)(h1:∀u∈xs,u.oneCell'=true):
  Calls prog 119 #[.slice A n c] w (z8p 9 1 n xs w):=by
 obtain⟨i0,hi,hz0,hz1,hz2⟩:=info_parts z2y;have t:∀(w:World) (a:YV) (n c l j:Nat),(binOp .eql 24 (.slice a n c) (.slice none l j)).run prog w=.ok (.bool a.isNone) w:=fun w a n c l j=>Lib.run_eql_slice_nil w _ _ a n c l j underlying24;cases A with
 | none=>
  obtain⟨D,j,e,p,F,z,hr⟩:=h;cases e
  have g:n=0:=by
   rcases Yq n with g|g
   ·exact g
   ·obtain⟨_,_,h,_⟩:=hr g;cases h
  subst g;obtain rfl:xs=[]:=Xo (by omega);clear hr h1;go_enter func119,ntmps119;go_wp2;go_ret;exact⟨_,rfl,World.ownsRow_nil _ _ _ _,Fr.refl [] w⟩
 | some ad=>
  have x:=(World.ownsRow_lit (base:=w.heap.size) (e:=9) (size:=1) w #[] 0 (Xb _) (Xt _) rfl);have f:=h.fr ((Fr.refl [] w).alloc (.cells #[] 9)) hB (by simp);have r:=hid h1;have s:=hid f;clear h h1 f;go_enter func119,ntmps119;go_wp2_with (at_builtin;refine z0c _ rfl _ _ 24 rfl w.heap.size 9 i0 _ 1 16 underlying24 hi hz0 hz1 hz2 rfl (by decide) _ _ _ rfl x B _ n xs rfl s.o r.o ?c1 ?c2 (by simp) ?_)
  case c1=>unfold maxLen;omega
  case c2=>omega
  intro C E d b y;go_wp2;go_ret;refine⟨_,rfl,by simpa using d,((Fr.refl [] w).alloc _).grown b (fun k m=>?_)⟩;simp[Value.ownBlock] at m;subst m;exact .inr (Xb _)
def zm0(g:Nat)(lb:Array Value)(p:YY→Bool)(B:Nat)(w:World):Prop:=
 ∀W (x:YY),FrB [] B w W→Calls prog g (#[.string x]++lb) W fun e w'=>e=.returned (.bool (p x))∧Fr [] W w'
theorem zp6(g:Nat)(lb:Array Value)(eg:∀args w,(callFunc g args).run prog w=.ok (.enter g args) w)(p:YY→Bool)(D:Nat)(l:YX)(A:YV)(c B:Nat)(w)(hp:zm0 g lb p D w)(hl:l.length≤281474976710656)(hB:B≤w.heap.size)
  (hsl:Sl w B 1 (.slice A l.length c) l.length (z03 l)):
  Calls prog 161 #[.slice A l.length c,.func (Fn.func g) #[] lb] w fun e w'=>e=.returned (.int .i64 (z3c p l))∧Fr [] w w':=by
 have G:=hid hsl;have F:=hid hp;clear hsl hp;go_enter func161,ntmps161;go_wp2;go_loopg [5,8] l.length (fun g u i wr=>∃(k:Nat),g=l.length - k∧k≤l.length∧i=.int .i64 k∧(∀j t,j < k→l[j]? = some t→p t=false)∧Fr [] w wr)
 case atStart=>exact⟨0,rfl,Xt _,rfl,fun j t x=>absurd x (Vg _),Fr.refl _ _⟩
 case round=>
  obtain⟨k,rfl,J,rfl,d,m⟩:=hrel;by_cases hlt:k < l.length
  ·obtain⟨b,off,rfl,K,M,I,a⟩:=G.o.at_ (by omega);obtain⟨s,hs⟩:∃s,l[k]? = some s:=⟨_,Xa hlt⟩;have H:wr.cell? ⟨b,off+k,none⟩=some (.string s):=m.cell (a k _ (z0x l k s hs)) (by simp);have L:=hid (fun W (hW:Fr [] wr W)=>F.o W s ((m.toB D).trans (hW.toB D)));have z:=hid m;have y:=hid (Fr.refl [] wr);by_cases hq:p s=true
   ·have E:=hid (z3i d hs hq);rw[hq] at L;clear d a hs hq m;go_wp2_with fail;refine(L.o _ y.o).mono ?_;rintro e C ⟨rfl,r⟩;go_wp2;go_ret;rw[E.o];exact⟨rfl,z.o.trans r⟩
   ·have f:p s=false:=by simpa using hq
    rw[f] at L
    have N:=hid (fun j t (x:j < k+1) (n:l[j]? = some t)=>(show p t=false by
     rcases Yc j k with h|h
     ·exact d j t h n
     ·have e:j=k:=by omega
      subst e;rw[hs] at n;cases n;exact f))
    clear d a hs hq f m;go_wp2_with fail;refine(L.o _ y.o).mono ?_;rintro e C ⟨rfl,r⟩;go_wp2;go_roundg (l.length - (k+1))
    case measure=>omega
    case rel=>exact⟨k+1,rfl,by omega,rfl,N.o,z.o.trans r⟩
  ·have E:=hid (z43 (q:=p) (l:=l) (fun j t n=>d j t (by have:=(Xe.1 n).1;omega) n));clear d;go_wp2;go_ret;rw[E.o];exact⟨rfl,m⟩
def zdn(ys:YX)(base:Nat)(v:Value)(w:World)(e:Ending)(w':World):Prop:=
 ∃v',e=.returned v'∧w'.ownsRow base 9 1 v' ys.length (z03 ys)∧Fr (z1w v) w w'∧v'.ownBlock=v.ownBlock
theorem q7n:∀w,(zeroValue 9).run prog w=.ok (.string ⟨#[]⟩) w:=fun w=>by kernel_rfl
theorem zbs(n:Nat)(xs)(A)(c:Nat)(w:World)(B:Nat)(hl:n≤1000000)(hB:B≤w.heap.size)(h:Sl w B 2 (.slice A n c) n xs)(h1:∀u∈xs,u.oneCell'=true):
  Calls prog 166 #[.slice A n c] w (z8p 97 2 n xs w):=by
 obtain⟨i0,hi,hz0,hz1,hz2⟩:=info_parts z9d;have t:∀(w:World) (a:YV) (n c l j:Nat),(binOp .eql 65 (.slice a n c) (.slice none l j)).run prog w=.ok (.bool a.isNone) w:=fun w a n c l j=>Lib.run_eql_slice_nil w _ _ a n c l j underlying65;cases A with
 | none=>
  obtain⟨D,j,e,p,F,z,hr⟩:=h;cases e
  have g:n=0:=by
   rcases Yq n with g|g
   ·exact g
   ·obtain⟨_,_,h,_⟩:=hr g;cases h
  subst g;obtain rfl:xs=[]:=Xo (by omega);clear hr h1;go_enter func166,ntmps166;go_wp2;go_ret;exact⟨_,rfl,World.ownsRow_nil _ _ _ _,Fr.refl [] w⟩
 | some ad=>
  have x:=(World.ownsRow_lit (base:=w.heap.size) (e:=97) (size:=2) w #[] 0 (Xb _) (Xt _) rfl);have f:=h.fr ((Fr.refl [] w).alloc (.cells #[] 97)) hB (by simp);have r:=hid h1;have s:=hid f;clear h h1 f;go_enter func166,ntmps166;go_wp2_with (at_builtin;refine z0c _ rfl _ _ 65 rfl w.heap.size 97 i0 _ 2 32 underlying65 hi hz0 hz1 hz2 rfl (by decide) _ _ _ rfl x B _ n xs rfl s.o r.o ?c1 ?c2 (by simp) ?_)
  case c1=>unfold maxLen;omega
  case c2=>omega
  intro C E d b y;go_wp2;go_ret;refine⟨_,rfl,by simpa using d,((Fr.refl [] w).alloc _).grown b (fun k m=>?_)⟩;simp[Value.ownBlock] at m;subst m;exact .inr (Xb _)
theorem zbr(n:Nat)(xs)(A)(c:Nat)(w:World)(B:Nat)(hl:n≤1000000)(hB:B≤w.heap.size)(h:Sl w B 2 (.slice A n c) n xs)(h1:∀u∈xs,u.oneCell'=true):
  Calls prog 167 #[.slice A n c] w (z8p 102 2 n xs w):=by
 obtain⟨i0,hi,hz0,hz1,hz2⟩:=info_parts z67;have t:∀(w:World) (a:YV) (n c l j:Nat),(binOp .eql 66 (.slice a n c) (.slice none l j)).run prog w=.ok (.bool a.isNone) w:=fun w a n c l j=>Lib.run_eql_slice_nil w _ _ a n c l j underlying66;cases A with
 | none=>
  obtain⟨D,j,e,p,F,z,hr⟩:=h;cases e
  have g:n=0:=by
   rcases Yq n with g|g
   ·exact g
   ·obtain⟨_,_,h,_⟩:=hr g;cases h
  subst g;obtain rfl:xs=[]:=Xo (by omega);clear hr h1;go_enter func167,ntmps167;go_wp2;go_ret;exact⟨_,rfl,World.ownsRow_nil _ _ _ _,Fr.refl [] w⟩
 | some ad=>
  have x:=(World.ownsRow_lit (base:=w.heap.size) (e:=102) (size:=2) w #[] 0 (Xb _) (Xt _) rfl);have f:=h.fr ((Fr.refl [] w).alloc (.cells #[] 102)) hB (by simp);have r:=hid h1;have s:=hid f;clear h h1 f;go_enter func167,ntmps167;go_wp2_with (at_builtin;refine z0c _ rfl _ _ 66 rfl w.heap.size 102 i0 _ 2 24 underlying66 hi hz0 hz1 hz2 rfl (by decide) _ _ _ rfl x B _ n xs rfl s.o r.o ?c1 ?c2 (by simp) ?_)
  case c1=>unfold maxLen;omega
  case c2=>omega
  intro C E d b y;go_wp2;go_ret;refine⟨_,rfl,by simpa using d,((Fr.refl [] w).alloc _).grown b (fun k m=>?_)⟩;simp[Value.ownBlock] at m;subst m;exact .inr (Xb _)
theorem zbu:(prog.info? 70).map (fun i=>(i.zero,i.size,i.bytes))=some (some (.agg #[.string ⟨#[]⟩,.int .i64 0,.string ⟨#[]⟩,.slice none 0 0,.slice none 0 0,.slice none 0 0,.int .i64 0]),7,120):=by kernel_rfl
attribute [local go_sem] z1g
def zsn(w:World)(p:YY)(e:Ending)(w':World):Prop:=
 (z0z p=0∧p.size≤60∧∃l v xs,z2k p 0=some l∧e=.returned (.tuple #[v,.int .i64 0])∧w'.ownsRow (w.heap.size+3) 318 2 v l.length xs∧cellsOf w' (w.heap.size+3) w'.heap.size (l.map (·.2)) xs∧Fr [] w w') ∨
 (z0z p≠0∧e=.returned (.tuple #[.slice none 0 0,.int .i64 (z0z p)])∧Fr [] w w')
theorem zas(p:YY)(w:World)(hs:p.size≤281474976710656):
  Calls prog 307 #[.string p] w (zsn w p):=by
 by_cases h60:60 < p.size
 ·have d:z0z p=2:=by unfold z0z;rw[Xf h60]
  have E:=hid d;clear d;go_enter func307,ntmps307;go_wp2;go_ret2;refine .inr ⟨by rw[E.o];decide,by rw[E.o];rfl,Fr.refl _ _⟩
 ·have d:z0z p=if (z2k p 0).isSome then 0 else 1:=by unfold z0z okAt;rw[Xc h60]
  have E:=hid d;clear d;go_enter func307,ntmps307;go_wp2_with fail;refine(zw8 p _ (by omega)).mono ?_;intro e k a;unfold zaf at a;cases hp:z2k p 0 with
  | none=>
   rw[hp] at a E;obtain⟨rfl,g⟩:=a;go_wp2;go_ret2;refine .inr ⟨by rw[E.o];decide,by rw[E.o];rfl,g⟩
  | some l=>
   rw[hp] at a E;obtain⟨v,n,j,rfl,f,b,rfl,g⟩:=a;have h:=hid hp;clear hp;go_wp2;go_ret2;exact .inl ⟨by rw[E.o];rfl,by omega,l,v,j,h.o,rfl,f,b,g⟩
theorem zhl(p:YY)(w:World)(hs:p.size≤281474976710656):
  Calls prog 257 #[.string p] w fun e w'=>e=.returned (.int .i64 (z0z p))∧Fr [] w w':=by
 go_enter func257,ntmps257;go_wp2_with fail;refine(zas p _ hs).mono ?_;intro e h a;rcases a with⟨b,_,l,v,j,f,rfl,_,_,d⟩|⟨b,rfl,d⟩
 ·have g:=hid b;clear b f;go_wp2;go_ret;rw[g.o];exact⟨rfl,d⟩
 ·clear b;go_wp2;go_ret;exact⟨rfl,d⟩
theorem zk4(n:Nat)(w:World)(hn:n * 16≤140737488355328):
  Calls prog 177 #[.slice none 0 0,.int .i64 n] w (z8p 9 1 0 [] w):=by
 obtain⟨i0,hi,hz0,hz1,hz2⟩:=info_parts z2y;by_cases h0:n=0
 ·subst h0;go_enter func177,ntmps177;go_wp2;go_ret;exact⟨_,rfl,World.ownsRow_nil _ _ _ _,Fr.refl [] w⟩
 ·have h4:(n:Int) > 0:=by omega
  have a:(Builtin.firstCells i0.size 0 (.slice none 0 0)).run prog w.drew=.ok ([]:List Value).toArray w.drew:=run_firstCells_none w.drew i0.size 0 0 0
  have b:∀d,(Builtin.append_ #[24,3] d #[.slice none 0 0,.int .i64 (n:Int)]).run prog w=.ok (.slice (some ⟨w.heap.size,0,none⟩) (0+n) (grownCap w (0+n) 0 9)) (w.drew.alloc (.cells (([]:List Value).toArray++Builtin.zeroCells (Value.string ⟨#[]⟩).cells n++Builtin.zeroCells (Value.string ⟨#[]⟩).cells (grownCap w (0+n) 0 9 - (0+n))) 9)):=fun d=>
   Lib.run_append_grow_zeros w 24 3 d 9 i0 _ .i64 .i64 underlying24 underlying3 hi hz0 none 0 0 [] a n (by omega) (by omega) (by omega) (by omega) (by rw[hz2];omega) (by have:=growslice_fits (need:=0+n) (old:=0) (bytes:=i0.bytes) (by omega) (by rw[hz2];omega);exact this)
  have f:grownCap w (0+n) 0 9≤maxLen:=grownCap_le_maxLen w _ _ _ (by unfold maxLen;omega);have h:0+n≤grownCap w (0+n) 0 9:=grownCap_ge w _ _ _;generalize grownCap w (0+n) 0 9=G at *
  have g:(w.alloc (.cells (Builtin.zeroCells #[Value.string ⟨#[]⟩] n++Builtin.zeroCells #[Value.string ⟨#[]⟩] (G - n)) 9)).drew.ownsRow w.heap.size 9 1 (.slice (some ⟨w.heap.size,0,none⟩) 0 G) 0 []:=
   World.ownsRow_made (base:=w.heap.size) (e:=9) (size:=1) w (Builtin.zeroCells #[Value.string ⟨#[]⟩] n++Builtin.zeroCells #[Value.string ⟨#[]⟩] (G - n)) G (Xb _) f (by simp[Builtin.zeroCells];omega)
  have k:=hid g;have j:G≤9223372036854775807:=by unfold maxLen at f;omega
  clear g f h0 a;go_enter func177,ntmps177;go_wp2_with (at_builtin;refine Lib.wpList_append_run _ rfl _ _ _ _ rfl _ _ rfl rfl _ _ (b _) ?_);go_ret;exact⟨_,rfl,k.o,((Fr.refl [] w).drew).alloc _⟩
def z5y(a b:YX)(k:Nat):YX:=if k=0 then [] else if k=1 then a else a++b
theorem z72(a b:YX)(v1 v2)(g c:Nat)(w:World)(B:Nat)(ha:a.length≤256)(hb:b.length≤8796093021952)(hc:2≤c)(hc2:c≤1000)(hB:B≤w.heap.size)(h1:Sl w B 1 v1 a.length (z03 a))(h2:Sl w B 1 v2 b.length (z03 b))
  (g0:w.cell? ⟨g,0,none⟩=some v1) (g1:w.cell? ⟨g,1,none⟩=some v2):
  Calls prog 136 #[.slice (some ⟨g,0,none⟩) 2 c] w (z8p 9 1 (a++b).length (z03 (a++b)) w):=by
 obtain⟨i0,hi,hz0,hz1,hz2⟩:=info_parts z2y;obtain⟨D,c1,rfl,_⟩:=id h1;obtain⟨K,c2,rfl,_⟩:=id h2;have F:=hid h1;have J:=hid h2;have E:=hid g0;have L:=hid g1;have O:g < w.heap.size:=World.block_lt_of_cell? w _ g0;clear h1 h2;go_enter func136,ntmps136;go_wp2;go_loopg [3,11] 2 (fun k s i wr=>∃(m:Nat),k=2 - m∧m≤2∧i=.int .i64 m∧s=.int .i64 ((z5y a b m).length:Nat)∧w=wr)
 case atStart=>exact⟨0,rfl,by omega,rfl,rfl,rfl⟩
 case round=>
  obtain⟨m,rfl,I,rfl,rfl,rfl⟩:=hrel;rcases(show m=0∨m=1∨m=2 by omega) with rfl|rfl|rfl
  ·rw[show(z5y a b 0).length=0 from rfl];go_wp2;go_roundg (2 - (0+1))
   case measure=>omega
   case rel=>exact⟨1,rfl,by omega,by simp,by simp[z5y],rfl⟩
  ·rw[show(z5y a b 1).length=a.length from rfl];go_wp2;go_roundg (2 - (1+1))
   case measure=>omega
   case rel=>exact⟨2,rfl,by omega,by simp,by simp[z5y],rfl⟩
  obtain⟨N,y⟩:∃N,N=(z5y a b 2).length:=⟨_,rfl⟩;rw[←y];have A:N≤8796093022208:=by rw[y];simp[z5y];omega
  clear g0 g1 y;go_wp2_with fail;refine(zk4 N _ (by omega)).mono ?_;rintro e P ⟨v,rfl,r,p⟩;have G:=hid r;have C:=hid p;have T:=p.size;obtain⟨Q,R,rfl,-⟩:=z05 r;clear r p;go_wp2;go_loopg [6,27] 2 (fun k v i wr=>∃(m:Nat),k=2 - m∧m≤2∧i=.int .i64 m∧wr.ownsRow w.heap.size 9 1 v (z5y a b m).length (z03 (z5y a b m))∧Fr [] w wr)
  case atStart=>exact⟨0,rfl,by omega,rfl,G.o,C.o⟩
  case round=>
  obtain⟨m,rfl,I,rfl,r,p⟩:=hrel;have H:=p.size;have h:=hid p;have j:=hid r;obtain⟨U,S,rfl,-⟩:=z05 r;clear r p;rcases(show m=0∨m=1∨m=2 by omega) with rfl|rfl|rfl
  ·have x:wr.cell? ⟨g,0,none⟩=some (.slice D a.length c1):=h.o.cell E.o (by simp);go_wp2_with (at_builtin;refine z0c _ rfl _ _ 24 rfl w.heap.size 9 i0 _ 1 16 underlying24 hi hz0 hz1 hz2 rfl (by decide) _ _ _ rfl j.o B _ a.length (z03 a) rfl (F.o.fr h.o hB (by simp)) (z2z a) ?c1 ?c2 ?c3 ?_)
   case c1=>show 0+a.length≤_;unfold maxLen;omega
   case c2=>show(0+a.length) * 16≤_;omega
   case c3=>omega
   intro z M d f l;have n:=hid d;have t:=hid (h.o.grown f (fun k u=>.inr (j.o.lt k u).1));clear d f l x;go_wp2;go_roundg (2 - (0+1))
   case measure=>omega
   case rel=>exact⟨1,rfl,by omega,by simp,by have:=n.o;simpa[z5y,z03] using this,t.o⟩
  ·have x:wr.cell? ⟨g,1,none⟩=some (.slice K b.length c2):=h.o.cell L.o (by simp);go_wp2_with (at_builtin;refine z0c _ rfl _ _ 24 rfl w.heap.size 9 i0 _ 1 16 underlying24 hi hz0 hz1 hz2 rfl (by decide) _ _ _ rfl j.o B _ b.length (z03 b) rfl (J.o.fr h.o hB (by simp)) (z2z b) ?d1 ?d2 ?d3 ?_)
   case d1=>show a.length+b.length≤_;unfold maxLen;omega
   case d2=>show(a.length+b.length) * 16≤_;omega
   case d3=>omega
   intro z M d f l;have n:=hid d;have t:=hid (h.o.grown f (fun k u=>.inr (j.o.lt k u).1));clear d f l x;go_wp2;go_roundg (2 - (1+1))
   case measure=>omega
   case rel=>exact⟨2,rfl,by omega,by simp,by have:=n.o;simpa[z5y,z03] using this,t.o⟩
  go_wp2;go_ret;exact⟨_,rfl,j.o,h.o⟩
end
end Go.Proofs.YtnmoajaelmimnaaGreatDoor
