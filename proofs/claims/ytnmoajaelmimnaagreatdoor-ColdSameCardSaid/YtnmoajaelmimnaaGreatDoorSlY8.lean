/- Contracts; no condition but each theorem's own. -/
import Derived.Test.YtnmoajaelmimnaaGreatDoorSlY6
import Derived.Laws.NewBlocks
import Derived.Lib.Overlaps
set_option linter.unusedVariables false
set_option linter.unusedSimpArgs false
set_option maxHeartbeats 8000000
set_option maxRecDepth 100000
namespace Go.Proofs.YtnmoajaelmimnaaGreatDoor
open Go.Proofs.Tryz
section
open Go.RowKit
theorem zka(x y:Itm)(v u)(w:World)(B:Nat)(hx:x.Small)(hy:y.Small)(hB:B≤w.heap.size)(h:z0p w B v x)(k:z0p w B u y):
  Calls prog 181 #[v,u] w fun e w'=>e=.returned (.bool (z7a x y))∧Fr [] w w':=by
 obtain⟨H,c1,S,c2,P,M,rfl,J,E,h3⟩:=h;obtain⟨F,Q,K,L,G,R,rfl,C,O,I⟩:=k;have A:=hid (fun W (hf:Fr [] w W)=>zqv x.list y.list H F c1 Q B W hx.list hy.list (Xd hB hf.size) (J.fr hf hB (by simp)) (C.fr hf hB (by simp)));have N:=hid (fun W (hf:Fr [] w W)=>zqu x.pairs y.pairs S K c2 L B W hx.pairs hy.pairs (Xd hB hf.size) (E.fr hf hB (by simp)) (O.fr hf hB (by simp)));have Y:=hid (fun W (hf:Fr [] w W)=>zqt x.scores y.scores P G M R B W hx.scores hy.scores (Xd hB hf.size) (h3.fr hf hB (by simp)) (I.fr hf hB (by simp)));have a:=hid (Bx2.start w (yIl x H c1 S c2 P M) (yIl y F Q K L G R));have T:z7a x y=(decide (x.kind=y.kind)&&decide (x.text=y.text)&&decide (x.list=y.list)&&decide (x.pairs=y.pairs)&&decide (x.scores=y.scores)):=rfl;rw[T];obtain⟨m,l,f,g,p⟩:=five a.o.b1;obtain⟨f0,j,n,s,r⟩:=five a.o.b2;clear T J E h3 C O I hx hy;generalize decide (x.list=y.list)=V at *;generalize decide (x.pairs=y.pairs)=X at *;generalize decide (x.scores=y.scores)=bs at *;by_cases ek:x.kind=y.kind
 ·have U:(x.kind==y.kind)=true:=by simpa using ek
  rw[Xi ek];clear ek;by_cases et:x.text=y.text
  ·have Z:(x.text.toList==y.text.toList)=true:=by rw[et];exact(zov y.text).1
   rw[Xi et];clear et;cases V with
   | false=>
    go_enter func181,ntmps181;go_wp2_with fail;refine(A.o _ a.o.fr).mono ?_;rintro e D ⟨rfl,d⟩;go_wp2;go_ret;exact⟨by simp,a.o.fr.trans d⟩
   | true=>
    cases X with
    | false=>
     go_enter func181,ntmps181;go_wp2_with fail;refine(A.o _ a.o.fr).mono ?_;rintro e D ⟨rfl,d⟩;have b:=hid (a.o.step d);clear m l f g p f0 j n s r d;obtain⟨m,l,f,g,p⟩:=five b.o.b1;obtain⟨f0,j,n,s,r⟩:=five b.o.b2;go_wp2_with fail;refine(N.o _ b.o.fr).mono ?_;rintro e w2 ⟨rfl,t⟩;go_wp2;go_ret;exact⟨by simp,b.o.fr.trans t⟩
    | true=>
     go_enter func181,ntmps181;go_wp2_with fail;refine(A.o _ a.o.fr).mono ?_;rintro e D ⟨rfl,d⟩;have b:=hid (a.o.step d);clear m l f g p f0 j n s r d;obtain⟨m,l,f,g,p⟩:=five b.o.b1;obtain⟨f0,j,n,s,r⟩:=five b.o.b2;go_wp2_with fail;refine(N.o _ b.o.fr).mono ?_;rintro e w2 ⟨rfl,t⟩;have z:=hid (b.o.step t);clear m l f g p f0 j n s r t;obtain⟨m,l,f,g,p⟩:=five z.o.b1;obtain⟨f0,j,n,s,r⟩:=five z.o.b2;go_wp2_with fail;refine(Y.o _ z.o.fr).mono ?_;rintro e w3 ⟨rfl,g3⟩;go_wp2;go_ret;exact⟨by simp,z.o.fr.trans g3⟩
  ·have Z:(x.text.toList==y.text.toList)=false:=(zzz et).1;rw[Xl et];go_enter func181,ntmps181;go_wp2;go_ret;exact⟨by simp,a.o.fr⟩
 ·have U:(x.kind==y.kind)=false:=by simpa using ek
  rw[Xl ek];go_enter func181,ntmps181;go_wp2;go_ret;exact⟨by simp,a.o.fr⟩
attribute [local go_sem] z1g
def z58(w:World)(B:Nat)(v:Value)(l:List Itm):Prop:=
 ∃A c,∃rs:List (List Value),v=.slice A l.length c∧rs.length=l.length∧(∀(i:Nat) (x:Itm),l[i]? = some x→∃cs:List Value,rs[i]? = some cs∧cs.length=5∧z0p w B (.agg cs.toArray) x)∧Sl w B 5 v l.length rs.flatten
theorem q62:∀(rs:List (List Value)) (i j:Nat) (cs),(∀c∈rs,c.length=5)→rs[i]? = some cs→j < 5→rs.flatten[i * 5+j]? = cs[j]?
 | [],i,j,cs,_,h,_=>by simp at h
 | r :: rs,0,j,cs,hl,h,hj=>by
  simp at h;subst h;rw[Jv,Yw,Ua,Xu (by rw[hl r (by simp)];exact hj)]
 | r :: rs,i+1,j,cs,hl,h,hj=>by
  have hr:=hl r (by simp);rw[Ua,Xq (by omega),hr,show(i+1) * 5+j - 5=i * 5+j from by omega];exact q62 rs i j cs (fun c hc=>hl c (by simp[hc])) (by simpa using h) hj
structure At5(w:World)(B b o:Nat)(x:Itm)(A1 A2 A3:YV)(c1 c2 c3:Nat):Prop where
 k0:w.cell? ⟨b,o,none⟩=some (.int .i64 x.kind)
 k1:w.cell? ⟨b,o+1,none⟩=some (.string x.text)
 k2:w.cell? ⟨b,o+2,none⟩=some (.slice A1 x.list.length c1)
 k3:w.cell? ⟨b,o+3,none⟩=some (.slice A2 x.pairs.length c2)
 k4:w.cell? ⟨b,o+4,none⟩=some (.slice A3 x.scores.length c3)
 s1:Sl w B 1 (.slice A1 x.list.length c1) x.list.length (z03 x.list)
 s2:Sl w B 2 (.slice A2 x.pairs.length c2) x.pairs.length (z0e x.pairs)
 s3:Sl w B 2 (.slice A3 x.scores.length c3) x.scores.length (z06 x.scores)
theorem At5.item{w:World}{B b o:Nat}{x:Itm}{A1 A2 A3:YV}{c1 c2 c3:Nat}(h:At5 w B b o x A1 A2 A3 c1 c2 c3):z0p w B (.agg #[.int .i64 x.kind,.string x.text,.slice A1 x.list.length c1,.slice A2 x.pairs.length c2,.slice A3 x.scores.length c3]) x:=
 ⟨A1,c1,A2,c2,A3,c3,rfl,h.s1,h.s2,h.s3⟩
theorem At5.fr{w w':World}{B b o:Nat}{x:Itm}{A1 A2 A3:YV}{c1 c2 c3:Nat}{S:List Nat}(h:At5 w B b o x A1 A2 A3 c1 c2 c3)(hf:Fr S w w')(hb:b < B)(hB:B≤w.heap.size)(hS:∀k,k∈S→B≤k):At5 w' B b o x A1 A2 A3 c1 c2 c3:=by
 have a:b∉S:=fun d=>by have:=hS b d;omega
 exact⟨hf.cell h.k0 a,hf.cell h.k1 a,hf.cell h.k2 a,hf.cell h.k3 a,hf.cell h.k4 a,h.s1.fr hf hB hS,h.s2.fr hf hB hS,h.s3.fr hf hB hS⟩
theorem z58.form{w:World}{B:Nat}{v:Value}{l:List Itm}(h:z58 w B v l):∃A c,v=.slice A l.length c:=by
 obtain⟨A,c,a,rfl,_⟩:=h;exact⟨A,c,rfl⟩
theorem z58.at_{w:World}{B:Nat}{A:YV}{c:Nat}{l:List Itm}(h:z58 w B (.slice A l.length c) l)(hn:0 < l.length):
  ∃b off,A=some ⟨b,off,none⟩∧b < B∧l.length≤c∧c≤maxLen∧∀(i:Nat) (x:Itm),l[i]? = some x→∃A1 A2 A3 c1 c2 c3,At5 w B b (off+i * 5) x A1 A2 A3 c1 c2 c3:=by
 obtain⟨M,K,t,I,N,hi,hs⟩:=h;cases I;obtain⟨b,off,rfl,y,r,G,a⟩:=hs.at_ hn;refine⟨b,off,rfl,y,r,G,fun i x F=>?_⟩;obtain⟨C,n,L,k⟩:=hi i x F
 have e:∀c∈t,c.length=5:=fun c r=>by
  obtain⟨j,p,rfl⟩:=Vy r;obtain⟨d,s,f,_⟩:=hi j _ (Xa (show j < l.length by omega));rw[Xa p] at s;cases s;exact f
 obtain⟨A1,c1,A2,c2,A3,c3,J,E,z,H⟩:=k
 have m:C=[.int .i64 x.kind,.string x.text,.slice A1 x.list.length c1,.slice A2 x.pairs.length c2,.slice A3 x.scores.length c3]:=by
  have:=congrArg Array.toList (Value.agg.inj J);simpa using this
 subst m
 have g:∀j u,j < 5→[Value.int .i64 x.kind,.string x.text,.slice A1 x.list.length c1,.slice A2 x.pairs.length c2,.slice A3 x.scores.length c3][j]? = some u→w.cell? ⟨b,off+(i * 5+j),none⟩=some u:=fun j u p D=>
  a _ _ (by rw[q62 t i j _ e n p];exact D)
 exact⟨A1,A2,A3,c1,c2,c3,g 0 _ (by decide) rfl,by rw[Yb];exact g 1 _ (by decide) rfl,by rw[Yb];exact g 2 _ (by decide) rfl,by rw[Yb];exact g 3 _ (by decide) rfl,by rw[Yb];exact g 4 _ (by decide) rfl,E,z,H⟩
theorem z58.fr{w w':World}{B:Nat}{S:List Nat}{v:Value}{l:List Itm}(h:z58 w B v l)(hf:Fr S w w')(hB:B≤w.heap.size)(hS:∀k,k∈S→B≤k):z58 w' B v l:=by
 obtain⟨A,c,a,rfl,b,hi,hs⟩:=h
 exact⟨A,c,a,rfl,b,fun i x g=>by
  obtain⟨e,f,d,h3⟩:=hi i x g;exact⟨e,f,d,h3.fr hf hB hS⟩,hs.fr hf hB hS⟩
attribute [local go_sem] z1g
def zd9(m:Nat)(ys:List Value)(base:Nat)(v:Value)(w:World)(e:Ending)(w':World):Prop:=
 ∃v',e=.returned v'∧w'.ownsRow base 102 2 v' m ys∧w.grownBy w' v.ownBlock∧(v'.ownBlock=v.ownBlock∨v'.ownBlock=some w.heap.size)
def zdb(m:Nat)(ys:List Value)(base:Nat)(v:Value)(w:World)(e:Ending)(w':World):Prop:=
 ∃v',e=.returned v'∧w'.ownsRow base 97 2 v' m ys∧w.grownBy w' v.ownBlock∧(v'.ownBlock=v.ownBlock∨v'.ownBlock=some w.heap.size)
def zxm(m:Nat)(ys:List Value)(base:Nat)(v:Value)(w:World)(e:Ending)(w':World):Prop:=
 ∃v',e=.returned v'∧w'.ownsRow base 70 7 v' m ys∧w.grownBy w' v.ownBlock∧v'.ownBlock=v.ownBlock
theorem zeroE:∀w,(zeroValue 70).run prog w=.ok (.agg #[.string ⟨#[]⟩,.int .i64 0,.string ⟨#[]⟩,.slice none 0 0,.slice none 0 0,.slice none 0 0,.int .i64 0]) w:=fun w=>by kernel_rfl
def zda(m:Nat)(ys:List Value)(base:Nat)(v:Value)(w:World)(e:Ending)(w':World):Prop:=
 ∃v',e=.returned v'∧w'.ownsRow base 70 7 v' m ys∧w.grownBy w' v.ownBlock∧(v'.ownBlock=v.ownBlock∨v'.ownBlock=some w.heap.size)
theorem q79:(∀(n:Nat) (xs vs) (base gv:Nat) (v) (w:World) (hn:(n+1) * 24≤140737488355328) (h:w.ownsRow base 102 2 v n xs) (hv1:∀u∈vs,u.oneCell'=true) (hvl:vs.length=2) (hgv:Whole w gv 102 vs) (hb:base≤w.heap.size),Calls prog 286 #[v,.int .i64 n,.slice (some ⟨gv,0,none⟩) 1 1] w (zd9 (n+1) (xs++vs) base v w))∧(∀(n:Nat) (xs vs) (base gv:Nat) (v) (w:World) (hn:(n+1) * 32≤140737488355328) (h:w.ownsRow base 97 2 v n xs) (hv1:∀u∈vs,u.oneCell'=true) (hvl:vs.length=2) (hgv:Whole w gv 97 vs) (hb:base≤w.heap.size),Calls prog 277 #[v,.int .i64 n,.slice (some ⟨gv,0,none⟩) 1 1] w (zdb (n+1) (xs++vs) base v w)):=by
 refine⟨?_,?_⟩;have e:=hid trivial
 rotate_left
 have x:=hid trivial
 all_goals
  intro n xs vs base gv v w hn h hv1 hvl hgv hb
  first
  | (guard_hyp e
     obtain⟨i0,hi,hz0,hz1,hz2⟩:=info_parts z67)
  | (obtain⟨i0,hi,hz0,hz1,hz2⟩:=info_parts z9d)
  have hs:Sl w w.heap.size 2 (.slice (some ⟨gv,0,none⟩) 1 1) 1 vs:=⟨_,_,rfl,by omega,by omega,by unfold maxLen;omega,fun _=>⟨gv,0,rfl,hgv.lt,fun j u t=>by rw[Yw,hgv.cell];exact t⟩⟩;have l:=hid hs;have f:=hid h;have k:=hid hv1;obtain⟨A,c,rfl,y,z,s⟩:=z05 h;unfold maxLen at s;clear hs h hv1 hvl hgv;rcases y with rfl|⟨g,rfl⟩
  ·
   have m:n=0:=by
    rcases f.o.2 with⟨_,h0⟩|⟨g',cap',cur,h',_⟩
    ·
     exact h0
    ·
     cases h'
   subst m
   first
   | (guard_hyp e
      go_enter func286,ntmps286;go_wp2_with (at_builtin;refine z0c _ rfl _ _ 66 rfl base 102 i0 _ 2 24 underlying66 hi hz0 hz1 hz2 rfl (by decide) _ _ _ rfl f.o _ _ 1 vs rfl l.o k.o ?c1 ?c2 hb ?_))
   | (go_enter func277,ntmps277
      go_wp2_with (at_builtin;refine z0c _ rfl _ _ 65 rfl base 97 i0 _ 2 32 underlying65 hi hz0 hz1 hz2 rfl (by decide) _ _ _ rfl f.o _ _ 1 vs rfl l.o k.o ?c1 ?c2 hb ?_))
   case c1=>unfold maxLen;omega
   case c2=>omega
   intro p r b a d;go_wp2;go_ret;exact⟨_,rfl,b,a,d⟩
  ·
   by_cases hcn:c=n
   all_goals
    first
    | (guard_hyp e
       go_enter func286,ntmps286;go_wp2_with (at_builtin;refine z0c _ rfl _ _ 66 rfl base 102 i0 _ 2 24 underlying66 hi hz0 hz1 hz2 rfl (by decide) _ _ _ rfl f.o _ _ 1 vs rfl l.o k.o (by unfold maxLen;omega) (by omega) hb (fun p r b a d=>?_)))
    | (go_enter func277,ntmps277
       go_wp2_with (at_builtin;refine z0c _ rfl _ _ 65 rfl base 97 i0 _ 2 32 underlying65 hi hz0 hz1 hz2 rfl (by decide) _ _ _ rfl f.o _ _ 1 vs rfl l.o k.o (by unfold maxLen;omega) (by omega) hb (fun p r b a d=>?_)))
    go_ret;exact⟨_,rfl,b,a,d⟩
abbrev zz6:=@And.left _ _ q79
abbrev zze:=@And.right _ _ q79
theorem zza(n:Nat)(xs vs)(base gv:Nat)(v)(w:World)(hn:(n+1) * 120≤140737488355328)(h:w.ownsRow base 70 7 v n xs)(hv1:∀u∈vs,u.oneCell'=true)(hvl:vs.length=7)(hgv:Whole w gv 70 vs)(hb:base≤w.heap.size):
  Calls prog 303 #[v,.int .i64 n,.slice (some ⟨gv,0,none⟩) 1 1] w (zda (n+1) (xs++vs) base v w):=by
 obtain⟨i0,hi,hz0,hz1,hz2⟩:=info_parts zbu;have hs:Sl w w.heap.size 7 (.slice (some ⟨gv,0,none⟩) 1 1) 1 vs:=⟨_,_,rfl,by omega,by omega,by unfold maxLen;omega,fun _=>⟨gv,0,rfl,hgv.lt,fun j u r=>by rw[Yw,hgv.cell];exact r⟩⟩;have l:=hid hs;have e:=hid h;have k:=hid hv1;obtain⟨A,c,rfl,t,x,m⟩:=z05 h;unfold maxLen at m;clear hs h hv1 hvl hgv;rcases t with rfl|⟨g,rfl⟩
 ·have f:n=0:=by
   rcases e.o.2 with⟨_,h0⟩|⟨g',cap',cur,h',_⟩
   ·exact h0
   ·cases h'
  subst f;go_enter func303,ntmps303;go_wp2_with (at_builtin;refine z7f _ rfl _ _ 23 22 rfl base 70 i0 _ 7 120 underlying23 underlying22 hi hz0 hz1 hz2 rfl (by decide) _ _ _ rfl e.o _ _ 1 vs rfl l.o k.o ?c1 ?c2 hb ?_)
  case c1=>unfold maxLen;omega
  case c2=>omega
  intro p s b a d;go_wp2;go_ret;exact⟨_,rfl,b,a,d⟩
 ·by_cases hcn:c=n
  all_goals
   go_enter func303,ntmps303;go_wp2_with (at_builtin;refine z7f _ rfl _ _ 23 22 rfl base 70 i0 _ 7 120 underlying23 underlying22 hi hz0 hz1 hz2 rfl (by decide) _ _ _ rfl e.o _ _ 1 vs rfl l.o k.o (by unfold maxLen;omega) (by omega) hb (fun p s b a d=>?_));go_ret;exact⟨_,rfl,b,a,d⟩
theorem q4s:(∀(n i c g:Nat) (xs vs) (base gv:Nat) (w:World) (hin:i < n) (hr:n+1≤c) (h:w.ownsRow base 102 2 (.slice (some ⟨g,0,none⟩) n c) n xs) (h1:∀u∈xs,u.oneCell'=true) (hv1:∀u∈vs,u.oneCell'=true) (hvl:vs.length=2) (hgv:Whole w gv 102 vs) (hne:gv≠g),Calls prog 286 #[.slice (some ⟨g,0,none⟩) n c,.int .i64 i,.slice (some ⟨gv,0,none⟩) 1 1] w (zd9 (n+1) (z15 xs vs (i * 2)) base (.slice (some ⟨g,0,none⟩) n c) w))∧(∀(n i c g:Nat) (xs vs) (base gv:Nat) (w:World) (hin:i < n) (hr:n+1≤c) (h:w.ownsRow base 97 2 (.slice (some ⟨g,0,none⟩) n c) n xs) (h1:∀u∈xs,u.oneCell'=true) (hv1:∀u∈vs,u.oneCell'=true) (hvl:vs.length=2) (hgv:Whole w gv 97 vs) (hne:gv≠g),Calls prog 277 #[.slice (some ⟨g,0,none⟩) n c,.int .i64 i,.slice (some ⟨gv,0,none⟩) 1 1] w (zdb (n+1) (z15 xs vs (i * 2)) base (.slice (some ⟨g,0,none⟩) n c) w))∧(∀(n i c g:Nat) (xs vs) (base gv:Nat) (w:World) (hin:i < n) (hr:n+1≤c) (h:w.ownsRow base 70 7 (.slice (some ⟨g,0,none⟩) n c) n xs) (h1:∀u∈xs,u.oneCell'=true) (hv1:∀u∈vs,u.oneCell'=true) (hvl:vs.length=7) (hgv:Whole w gv 70 vs) (hne:gv≠g),Calls prog 303 #[.slice (some ⟨g,0,none⟩) n c,.int .i64 i,.slice (some ⟨gv,0,none⟩) 1 1] w (zda (n+1) (z15 xs vs (i * 7)) base (.slice (some ⟨g,0,none⟩) n c) w)):=by
 refine⟨?_,?_,?_⟩;have C:=hid trivial
 rotate_left
 have E:=hid trivial
 rotate_left
 have a0:=hid trivial
 all_goals
  intro n i c g xs vs base gv w hin hr h h1 hv1 hvl hgv hne
  first
  | (guard_hyp C
     obtain⟨i0,hi,hz0,hz1,hz2⟩:=info_parts z67)
  | (guard_hyp E
     obtain⟨i0,hi,hz0,hz1,hz2⟩:=info_parts z9d)
  | (obtain⟨i0,hi,hz0,hz1,hz2⟩:=info_parts zbu)
  obtain⟨l,L,H,G,F,K,D⟩:=q3h (w:=w.drew) h (Kj hin) hr hvl;obtain⟨_,_,_,_,_,_,Y,B⟩:=z3j h
  first
  | (guard_hyp C
     have p:(xs.drop (i * 2)).length=(n - i) * 2:=by rw[Xr,B];omega
     have s:∀z x,(callFunc 318 #[.slice (some ⟨gv,0,none⟩) 1 1,.slice (some ⟨g,(i+1) * 2,none⟩) z x]).run prog w=.ok (.value (.bool false)) w:=fun z x=>by
      rw[run_callFunc_extern func318 (by kernel_rfl) (by kernel_rfl) (by kernel_rfl) (e:=Extern.SlicesOverlaps.overlaps #[66,66] #[4]) (by kernel_rfl),
       Lib.run_overlaps_apart w 66 4 102 underlying66 2 (fun w=>by kernel_rfl) ⟨gv,0,none⟩ ⟨g,(i+1) * 2,none⟩ 1 1 z x hne 102 102 vs.length l.length (by unfold Whole at hgv;simp[World.shape?,hgv]) (by have:=H;unfold Whole at this;have:w.heap[g]? = _:=this;simp[World.shape?,this]) (by rw[G];omega) (hgv.frozen _) (hgv.frozen _)]
      rfl
     have r:∀d a A,(Builtin.copy_ #[66,66] d #[.slice (some ⟨g,(i+1) * 2,none⟩) (n - i) a,.slice (some ⟨g,i * 2,none⟩) (n+1 - i) A]).run prog w.drew=.ok (goInt ((n - i:Nat))) (w.drew.setCells g ((i+1) * 2) (xs.drop (i * 2))):=fun d a A=>
      z2e w.drew _ _ d 102 i0 2 g ((i+1) * 2) (n - i) a ⟨g,i * 2,none⟩ (n+1 - i) A (n - i) _ underlying66 hi hz1 (by simp only[Vn];split <;> omega) p
       (fun t u b=>by
         rw[Yg] at b;have I:=(Xe.1 b).1;have:=(h.cellAt (i * 2+t) (by omega)).trans b;rw[Addr.add_lit,show i * 2=i * 2 by omega];exact this)
       (fun t J=>by
         rw[show(i+1) * 2=(i+1) * 2 by omega];exact z0n H (o:=(i+1) * 2) (m:=(n - i) * 2) (by rw[G];omega) t (by omega))
       (fun u b=>h1 u (Yp b))
     rw[show(i+1) * 2=(i+1) * 2 by omega] at F D;obtain⟨f,k⟩:∃f,f=w.drew.setCells g ((i+1) * 2) (xs.drop (i * 2)):=⟨_,rfl⟩)
  | (guard_hyp E
     have p:(xs.drop (i * 2)).length=(n - i) * 2:=by rw[Xr,B];omega
     have s:∀z x,(callFunc 315 #[.slice (some ⟨gv,0,none⟩) 1 1,.slice (some ⟨g,(i+1) * 2,none⟩) z x]).run prog w=.ok (.value (.bool false)) w:=fun z x=>by
      rw[run_callFunc_extern func315 (by kernel_rfl) (by kernel_rfl) (by kernel_rfl) (e:=Extern.SlicesOverlaps.overlaps #[65,65] #[4]) (by kernel_rfl),
       Lib.run_overlaps_apart w 65 4 97 underlying65 2 (fun w=>by kernel_rfl) ⟨gv,0,none⟩ ⟨g,(i+1) * 2,none⟩ 1 1 z x hne 97 97 vs.length l.length (by unfold Whole at hgv;simp[World.shape?,hgv]) (by have:=H;unfold Whole at this;have:w.heap[g]? = _:=this;simp[World.shape?,this]) (by rw[G];omega) (hgv.frozen _) (hgv.frozen _)]
      rfl
     have r:∀d a A,(Builtin.copy_ #[65,65] d #[.slice (some ⟨g,(i+1) * 2,none⟩) (n - i) a,.slice (some ⟨g,i * 2,none⟩) (n+1 - i) A]).run prog w.drew=.ok (goInt ((n - i:Nat))) (w.drew.setCells g ((i+1) * 2) (xs.drop (i * 2))):=fun d a A=>
      z2e w.drew _ _ d 97 i0 2 g ((i+1) * 2) (n - i) a ⟨g,i * 2,none⟩ (n+1 - i) A (n - i) _ underlying65 hi hz1 (by simp only[Vn];split <;> omega) p
       (fun t u b=>by
         rw[Yg] at b;have I:=(Xe.1 b).1;have:=(h.cellAt (i * 2+t) (by omega)).trans b;rw[Addr.add_lit,show i * 2=i * 2 by omega];exact this)
       (fun t J=>by
         rw[show(i+1) * 2=(i+1) * 2 by omega];exact z0n H (o:=(i+1) * 2) (m:=(n - i) * 2) (by rw[G];omega) t (by omega))
       (fun u b=>h1 u (Yp b))
     rw[show(i+1) * 2=(i+1) * 2 by omega] at F D;obtain⟨f,k⟩:∃f,f=w.drew.setCells g ((i+1) * 2) (xs.drop (i * 2)):=⟨_,rfl⟩)
  | (have p:(xs.drop (i * 7)).length=(n - i) * 7:=by rw[Xr,B];omega
     have s:∀z x,(callFunc 327 #[.slice (some ⟨gv,0,none⟩) 1 1,.slice (some ⟨g,(i+1) * 7,none⟩) z x]).run prog w=.ok (.value (.bool false)) w:=fun z x=>by
      rw[run_callFunc_extern func327 (by kernel_rfl) (by kernel_rfl) (by kernel_rfl) (e:=Extern.SlicesOverlaps.overlaps #[22,22] #[4]) (by kernel_rfl),
       Lib.run_overlaps_apart w 22 4 70 underlying22 7 (fun w=>by kernel_rfl) ⟨gv,0,none⟩ ⟨g,(i+1) * 7,none⟩ 1 1 z x hne 70 70 vs.length l.length (by unfold Whole at hgv;simp[World.shape?,hgv]) (by have:=H;unfold Whole at this;have:w.heap[g]? = _:=this;simp[World.shape?,this]) (by rw[G];omega) (hgv.frozen _) (hgv.frozen _)]
      rfl
     have r:∀d a A,(Builtin.copy_ #[23,23] d #[.slice (some ⟨g,(i+1) * 7,none⟩) (n - i) a,.slice (some ⟨g,i * 7,none⟩) (n+1 - i) A]).run prog w.drew=.ok (goInt ((n - i:Nat))) (w.drew.setCells g ((i+1) * 7) (xs.drop (i * 7))):=fun d a A=>
      z2e w.drew _ _ d 70 i0 7 g ((i+1) * 7) (n - i) a ⟨g,i * 7,none⟩ (n+1 - i) A (n - i) _ underlying23 hi hz1 (by simp only[Vn];split <;> omega) p
       (fun t u b=>by
         rw[Yg] at b;have I:=(Xe.1 b).1;have:=(h.cellAt (i * 7+t) (by omega)).trans b;rw[Addr.add_lit,show i * 7=i * 7 by omega];exact this)
       (fun t J=>by
         rw[show(i+1) * 7=(i+1) * 7 by omega];exact z0n H (o:=(i+1) * 7) (m:=(n - i) * 7) (by rw[G];omega) t (by omega))
       (fun u b=>h1 u (Yp b))
     rw[show(i+1) * 7=(i+1) * 7 by omega] at F D;obtain⟨f,k⟩:∃f,f=w.drew.setCells g ((i+1) * 7) (xs.drop (i * 7)):=⟨_,rfl⟩)
  rw[←k] at r F D
  first
  | (guard_hyp C
     have j:Whole f gv 102 vs:=by
      rw[k];exact hgv.drew.grown (z0h _ _ _) (by simpa using hne)
     rw[show i * 2=i * 2 by omega] at D
     have y:∀d a,(Builtin.copy_ #[66,66] d #[.slice (some ⟨g,i * 2,none⟩) (n+1 - i) a,.slice (some ⟨gv,0,none⟩) 1 1]).run prog f=.ok (goInt ((1:Nat))) (f.setCells g (i * 2) vs):=fun d a=>
      z2e f _ _ d 102 i0 2 g (i * 2) (n+1 - i) a ⟨gv,0,none⟩ 1 1 1 vs underlying66 hi hz1 (by simp only[Vn];split <;> omega) (by omega)
       (fun t u b=>by
         rw[Addr.add_lit,Yw,j.cell];exact b)
       (fun t J=>by
         rw[show i * 2=i * 2 by omega];exact z0n F (o:=i * 2) (m:=2) (by rw[K];omega) t (by omega))
       hv1)
  | (guard_hyp E
     have j:Whole f gv 97 vs:=by
      rw[k];exact hgv.drew.grown (z0h _ _ _) (by simpa using hne)
     rw[show i * 2=i * 2 by omega] at D
     have y:∀d a,(Builtin.copy_ #[65,65] d #[.slice (some ⟨g,i * 2,none⟩) (n+1 - i) a,.slice (some ⟨gv,0,none⟩) 1 1]).run prog f=.ok (goInt ((1:Nat))) (f.setCells g (i * 2) vs):=fun d a=>
      z2e f _ _ d 97 i0 2 g (i * 2) (n+1 - i) a ⟨gv,0,none⟩ 1 1 1 vs underlying65 hi hz1 (by simp only[Vn];split <;> omega) (by omega)
       (fun t u b=>by
         rw[Addr.add_lit,Yw,j.cell];exact b)
       (fun t J=>by
         rw[show i * 2=i * 2 by omega];exact z0n F (o:=i * 2) (m:=2) (by rw[K];omega) t (by omega))
       hv1)
  | (have j:Whole f gv 70 vs:=by
      rw[k];exact hgv.drew.grown (z0h _ _ _) (by simpa using hne)
     rw[show i * 7=i * 7 by omega] at D
     have y:∀d a,(Builtin.copy_ #[23,22] d #[.slice (some ⟨g,i * 7,none⟩) (n+1 - i) a,.slice (some ⟨gv,0,none⟩) 1 1]).run prog f=.ok (goInt ((1:Nat))) (f.setCells g (i * 7) vs):=fun d a=>
      z2e f _ _ d 70 i0 7 g (i * 7) (n+1 - i) a ⟨gv,0,none⟩ 1 1 1 vs underlying23 hi hz1 (by simp only[Vn];split <;> omega) (by omega)
       (fun t u b=>by
         rw[Addr.add_lit,Yw,j.cell];exact b)
       (fun t J=>by
         rw[show i * 7=i * 7 by omega];exact z0n F (o:=i * 7) (m:=7) (by rw[K];omega) t (by omega))
       hv1)
  have W:=hid k;have R:=hid D;unfold maxLen at Y;have M:¬((i:Int)=(n:Int)):=by omega
  have T:IntKind.i64.wrap ((i:Int)+1)=(i:Int)+1:=by rw[IntKind.wrap_i64];omega
  have N:IntKind.i64.wrap ((n:Int)+1)=(n:Int)+1:=by rw[IntKind.wrap_i64];omega
  have S:((i:Int)+1).toNat=i+1:=by omega
  have U:((n:Int)+1).toNat=n+1:=by omega
  have Q:i≤n:=by omega
  have a2:(0:Int)≤(i:Int)+1:=by omega
  have V:(0:Int)≤(n:Int)+1:=by omega
  have a3:(n:Int)+1≤(c:Int):=by omega
  have a1:(i:Int)≤(n:Int)+1:=by omega
  have P:(i:Int)≤(n:Int):=by omega
  have O:¬(c=i):=by omega
  have X:¬(c=i+1):=by omega
  have Z:¬((c:Int) < (n:Int)+1):=by omega
  clear h h1 hv1 hvl hgv j l L H G F K D B p k hi hz0 hz1 hz2
  first
  | (guard_hyp C
     go_enter func286,ntmps286;go_wp2_with (simp only[s])
     go_region_law (refine z49 rfl _ _ 66 66 rfl _ _ (by simp[Act.eval,Act.put]) (by simp[Act.eval,Act.put]) (r _ _ _) ?_)
     go_wp2_with (at_builtin;refine z3b _ rfl _ _ 66 66 rfl _ _ rfl rfl (y _ _) ?_))
  | (guard_hyp E
     go_enter func277,ntmps277;go_wp2_with (simp only[s])
     go_region_law (refine z49 rfl _ _ 65 65 rfl _ _ (by simp[Act.eval,Act.put]) (by simp[Act.eval,Act.put]) (r _ _ _) ?_)
     go_wp2_with (at_builtin;refine z3b _ rfl _ _ 65 65 rfl _ _ rfl rfl (y _ _) ?_))
  | (go_enter func303,ntmps303
     go_wp2_with (simp only[s])
     go_region_law (refine z49 rfl _ _ 23 23 rfl _ _ (by simp[Act.eval,Act.put]) (by simp[Act.eval,Act.put]) (r _ _ _) ?_)
     go_wp2_with (at_builtin;refine z3b _ rfl _ _ 23 22 rfl _ _ rfl rfl (y _ _) ?_))
  go_ret;refine⟨_,rfl,R.o,?_,.inl rfl⟩;rw[W.o];exact z5k ((z0h _ _ _).trans (z0h _ _ _))
abbrev q3d:=@And.left _ _ q4s
abbrev q3f:=@And.left _ _ (@And.right _ _ q4s)
abbrev q3e:=@And.right _ _ (@And.right _ _ q4s)
theorem q4p:(∀(n i c g:Nat) (xs vs) (base gv:Nat) (w:World) (hn:(n+1) * 24≤140737488355328) (hin:i < n) (hnc:n≤c) (hr:c < n+1) (h:w.ownsRow base 102 2 (.slice (some ⟨g,0,none⟩) n c) n xs) (h1:∀u∈xs,u.oneCell'=true) (hv1:∀u∈vs,u.oneCell'=true) (hvl:vs.length=2) (hgv:Whole w gv 102 vs) (hb:base≤w.heap.size),Calls prog 286 #[.slice (some ⟨g,0,none⟩) n c,.int .i64 i,.slice (some ⟨gv,0,none⟩) 1 1] w (zd9 (n+1) (z15 xs vs (i * 2)) base (.slice (some ⟨g,0,none⟩) n c) w))∧(∀(n i c g:Nat) (xs vs) (base gv:Nat) (w:World) (hn:(n+1) * 32≤140737488355328) (hin:i < n) (hnc:n≤c) (hr:c < n+1) (h:w.ownsRow base 97 2 (.slice (some ⟨g,0,none⟩) n c) n xs) (h1:∀u∈xs,u.oneCell'=true) (hv1:∀u∈vs,u.oneCell'=true) (hvl:vs.length=2) (hgv:Whole w gv 97 vs) (hb:base≤w.heap.size),Calls prog 277 #[.slice (some ⟨g,0,none⟩) n c,.int .i64 i,.slice (some ⟨gv,0,none⟩) 1 1] w (zdb (n+1) (z15 xs vs (i * 2)) base (.slice (some ⟨g,0,none⟩) n c) w))∧(∀(n i c g:Nat) (xs vs) (base gv:Nat) (w:World) (hn:(n+1) * 120≤140737488355328) (hin:i < n) (hnc:n≤c) (hr:c < n+1) (h:w.ownsRow base 70 7 (.slice (some ⟨g,0,none⟩) n c) n xs) (h1:∀u∈xs,u.oneCell'=true) (hv1:∀u∈vs,u.oneCell'=true) (hvl:vs.length=7) (hgv:Whole w gv 70 vs) (hb:base≤w.heap.size),Calls prog 303 #[.slice (some ⟨g,0,none⟩) n c,.int .i64 i,.slice (some ⟨gv,0,none⟩) 1 1] w (zda (n+1) (z15 xs vs (i * 7)) base (.slice (some ⟨g,0,none⟩) n c) w)):=by
 refine⟨?_,?_,?_⟩;have H:=hid trivial
 rotate_left
 have L:=hid trivial
 rotate_left
 have a1:=hid trivial
 all_goals
  intro n i c g xs vs base gv w hn hin hnc hr h h1 hv1 hvl hgv hb
  first
  | (guard_hyp H
     obtain⟨i0,hi,hz0,hz1,hz2⟩:=info_parts z67)
  | (guard_hyp L
     obtain⟨i0,hi,hz0,hz1,hz2⟩:=info_parts z9d)
  | (obtain⟨i0,hi,hz0,hz1,hz2⟩:=info_parts zbu)
  obtain⟨l,S,l0,a2,_,_,hm,F⟩:=z3j h;clear a2
  first
  | (guard_hyp a1
     have N:(xs.drop (i * 7)).length=(n - i) * 7:=by rw[Xr,F];omega
     have y:(xs.take (i * 7)).length=i * 7:=by rw[Xp,F];omega)
  | (have N:(xs.drop (i * 2)).length=(n - i) * 2:=by rw[Xr,F];omega
     have y:(xs.take (i * 2)).length=i * 2:=by rw[Xp,F];omega)
  have e:∀t u,xs[t]? = some u→w.cell? ⟨g,t,none⟩=some u:=fun t u a=>by
   have a5:=(Xe.1 a).1;exact(h.cellAt t (by omega)).trans a
  first
  | (guard_hyp H
     have s:(Builtin.firstCells i0.size i (.slice (some ⟨g,0,none⟩) i c)).run prog w.drew=.ok (xs.take (i * 2)).toArray w.drew:=by
      rw[hz1]
      exact run_firstCells_some w.drew 2 i ⟨g,0,none⟩ i c (xs.take (i * 2)) y (fun t u a=>by
       rw[Addr.add_lit,Yw];rw[Un] at a;split at a
       ·
        exact e t u a
       ·
        cases a)
     have hG:grownCap w (n+1) c 102≤maxLen:=grownCap_le_maxLen w _ _ _ (by unfold maxLen;omega);have U:n+1≤grownCap w (n+1) c 102:=grownCap_ge w _ _ _
     have p:∀b,(Builtin.append_ #[66,3] b #[.slice (some ⟨g,0,none⟩) i c,.int .i64 ((n:Int)+1 - (i:Int))]).run prog w =
       .ok (.slice (some ⟨w.heap.size,0,none⟩) (n+1) (grownCap w (n+1) c 102)) (w.drew.alloc (.cells ((xs.take (i * 2)).toArray++Builtin.zeroCells (Value.cells (.agg #[.int .i64 0,.string ⟨#[]⟩])) (n+1 - i)++Builtin.zeroCells (Value.cells (.agg #[.int .i64 0,.string ⟨#[]⟩])) (grownCap w (n+1) c 102 - (n+1))) 102)):=fun b=>by
      have C:i+(n+1 - i)=n+1:=by omega
      have h:=Lib.run_append_grow_zeros w 66 3 b 102 i0 _ .i64 .i64 underlying66 underlying3 hi hz0 (some ⟨g,0,none⟩) i c _ s (n+1 - i) (by omega) (by omega) (by omega) (by omega) (by rw[hz2];omega) (by rw[hz2,C];exact growslice_fits hr hn);rw[C] at h;rw[show(n:Int)+1 - (i:Int)=((n+1 - i:Nat):Int) by omega];exact h
     generalize grownCap w (n+1) c 102=G at *;obtain⟨r,A⟩:∃r,r=(Builtin.zeroCells (Value.cells (.agg #[.int .i64 0,.string ⟨#[]⟩])) (n+1 - i)++Builtin.zeroCells (Value.cells (.agg #[.int .i64 0,.string ⟨#[]⟩])) (G - (n+1))).toList:=⟨_,rfl⟩;have D:r.length=(n+1 - i) * 2+(G - (n+1)) * 2:=by rw[A];simp[Builtin.zeroCells,Value.cells];try omega
     have I:(xs.take (i * 2)).toArray++Builtin.zeroCells (Value.cells (.agg #[.int .i64 0,.string ⟨#[]⟩])) (n+1 - i)++Builtin.zeroCells (Value.cells (.agg #[.int .i64 0,.string ⟨#[]⟩])) (G - (n+1))=(xs.take (i * 2)++r).toArray:=by
      rw[A];simp
     rw[I] at p;obtain⟨f,d⟩:∃f,f=w.drew.alloc (.cells (xs.take (i * 2)++r).toArray 102):=⟨_,rfl⟩;rw[←d] at p;have wn:Whole f w.heap.size 102 (xs.take (i * 2)++r):=by rw[d];exact Whole.new w.drew 102 _)
  | (guard_hyp L
     have s:(Builtin.firstCells i0.size i (.slice (some ⟨g,0,none⟩) i c)).run prog w.drew=.ok (xs.take (i * 2)).toArray w.drew:=by
      rw[hz1]
      exact run_firstCells_some w.drew 2 i ⟨g,0,none⟩ i c (xs.take (i * 2)) y (fun t u a=>by
       rw[Addr.add_lit,Yw];rw[Un] at a;split at a
       ·
        exact e t u a
       ·
        cases a)
     have hG:grownCap w (n+1) c 97≤maxLen:=grownCap_le_maxLen w _ _ _ (by unfold maxLen;omega);have U:n+1≤grownCap w (n+1) c 97:=grownCap_ge w _ _ _
     have p:∀b,(Builtin.append_ #[65,3] b #[.slice (some ⟨g,0,none⟩) i c,.int .i64 ((n:Int)+1 - (i:Int))]).run prog w =
       .ok (.slice (some ⟨w.heap.size,0,none⟩) (n+1) (grownCap w (n+1) c 97)) (w.drew.alloc (.cells ((xs.take (i * 2)).toArray++Builtin.zeroCells (Value.cells (.agg #[.string ⟨#[]⟩,.string ⟨#[]⟩])) (n+1 - i)++Builtin.zeroCells (Value.cells (.agg #[.string ⟨#[]⟩,.string ⟨#[]⟩])) (grownCap w (n+1) c 97 - (n+1))) 97)):=fun b=>by
      have C:i+(n+1 - i)=n+1:=by omega
      have h:=Lib.run_append_grow_zeros w 65 3 b 97 i0 _ .i64 .i64 underlying65 underlying3 hi hz0 (some ⟨g,0,none⟩) i c _ s (n+1 - i) (by omega) (by omega) (by omega) (by omega) (by rw[hz2];omega) (by rw[hz2,C];exact growslice_fits hr hn);rw[C] at h;rw[show(n:Int)+1 - (i:Int)=((n+1 - i:Nat):Int) by omega];exact h
     generalize grownCap w (n+1) c 97=G at *;obtain⟨r,A⟩:∃r,r=(Builtin.zeroCells (Value.cells (.agg #[.string ⟨#[]⟩,.string ⟨#[]⟩])) (n+1 - i)++Builtin.zeroCells (Value.cells (.agg #[.string ⟨#[]⟩,.string ⟨#[]⟩])) (G - (n+1))).toList:=⟨_,rfl⟩;have D:r.length=(n+1 - i) * 2+(G - (n+1)) * 2:=by rw[A];simp[Builtin.zeroCells,Value.cells];try omega
     have I:(xs.take (i * 2)).toArray++Builtin.zeroCells (Value.cells (.agg #[.string ⟨#[]⟩,.string ⟨#[]⟩])) (n+1 - i)++Builtin.zeroCells (Value.cells (.agg #[.string ⟨#[]⟩,.string ⟨#[]⟩])) (G - (n+1))=(xs.take (i * 2)++r).toArray:=by
      rw[A];simp
     rw[I] at p;obtain⟨f,d⟩:∃f,f=w.drew.alloc (.cells (xs.take (i * 2)++r).toArray 97):=⟨_,rfl⟩;rw[←d] at p;have wn:Whole f w.heap.size 97 (xs.take (i * 2)++r):=by rw[d];exact Whole.new w.drew 97 _)
  | (have s:(Builtin.firstCells i0.size i (.slice (some ⟨g,0,none⟩) i c)).run prog w.drew=.ok (xs.take (i * 7)).toArray w.drew:=by
      rw[hz1]
      exact run_firstCells_some w.drew 7 i ⟨g,0,none⟩ i c (xs.take (i * 7)) y (fun t u a=>by
       rw[Addr.add_lit,Yw];rw[Un] at a;split at a
       ·
        exact e t u a
       ·
        cases a)
     have hG:grownCap w (n+1) c 70≤maxLen:=grownCap_le_maxLen w _ _ _ (by unfold maxLen;omega);have U:n+1≤grownCap w (n+1) c 70:=grownCap_ge w _ _ _
     have p:∀b,(Builtin.append_ #[23,3] b #[.slice (some ⟨g,0,none⟩) i c,.int .i64 ((n:Int)+1 - (i:Int))]).run prog w =
       .ok (.slice (some ⟨w.heap.size,0,none⟩) (n+1) (grownCap w (n+1) c 70)) (w.drew.alloc (.cells ((xs.take (i * 7)).toArray++Builtin.zeroCells (Value.cells (.agg #[.string ⟨#[]⟩,.int .i64 0,.string ⟨#[]⟩,.slice none 0 0,.slice none 0 0,.slice none 0 0,.int .i64 0])) (n+1 - i)++Builtin.zeroCells (Value.cells (.agg #[.string ⟨#[]⟩,.int .i64 0,.string ⟨#[]⟩,.slice none 0 0,.slice none 0 0,.slice none 0 0,.int .i64 0])) (grownCap w (n+1) c 70 - (n+1))) 70)):=fun b=>by
      have C:i+(n+1 - i)=n+1:=by omega
      have h:=Lib.run_append_grow_zeros w 23 3 b 70 i0 _ .i64 .i64 underlying23 underlying3 hi hz0 (some ⟨g,0,none⟩) i c _ s (n+1 - i) (by omega) (by omega) (by omega) (by omega) (by rw[hz2];omega) (by rw[hz2,C];exact growslice_fits hr hn);rw[C] at h;rw[show(n:Int)+1 - (i:Int)=((n+1 - i:Nat):Int) by omega];exact h
     generalize grownCap w (n+1) c 70=G at *;obtain⟨r,A⟩:∃r,r=(Builtin.zeroCells (Value.cells (.agg #[.string ⟨#[]⟩,.int .i64 0,.string ⟨#[]⟩,.slice none 0 0,.slice none 0 0,.slice none 0 0,.int .i64 0])) (n+1 - i)++Builtin.zeroCells (Value.cells (.agg #[.string ⟨#[]⟩,.int .i64 0,.string ⟨#[]⟩,.slice none 0 0,.slice none 0 0,.slice none 0 0,.int .i64 0])) (G - (n+1))).toList:=⟨_,rfl⟩;have D:r.length=(n+1 - i) * 7+(G - (n+1)) * 7:=by rw[A];simp[Builtin.zeroCells,Value.cells];try omega
     have I:(xs.take (i * 7)).toArray++Builtin.zeroCells (Value.cells (.agg #[.string ⟨#[]⟩,.int .i64 0,.string ⟨#[]⟩,.slice none 0 0,.slice none 0 0,.slice none 0 0,.int .i64 0])) (n+1 - i)++Builtin.zeroCells (Value.cells (.agg #[.string ⟨#[]⟩,.int .i64 0,.string ⟨#[]⟩,.slice none 0 0,.slice none 0 0,.slice none 0 0,.int .i64 0])) (G - (n+1))=(xs.take (i * 7)++r).toArray:=by
      rw[A];simp
     rw[I] at p;obtain⟨f,d⟩:∃f,f=w.drew.alloc (.cells (xs.take (i * 7)++r).toArray 70):=⟨_,rfl⟩;rw[←d] at p;have wn:Whole f w.heap.size 70 (xs.take (i * 7)++r):=by rw[d];exact Whole.new w.drew 70 _)
  have Z:w.grownBy f (some g):=by rw[d];exact z5k (zmp _ _ _)
  first
  | (guard_hyp H
     have x:Whole f gv 102 vs:=by rw[d];exact hgv.drew.alloc _
     have z:Whole f g 102 l:=by rw[d];exact S.drew.alloc _)
  | (guard_hyp L
     have x:Whole f gv 97 vs:=by rw[d];exact hgv.drew.alloc _
     have z:Whole f g 97 l:=by rw[d];exact S.drew.alloc _)
  | (have x:Whole f gv 70 vs:=by rw[d];exact hgv.drew.alloc _
     have z:Whole f g 70 l:=by rw[d];exact S.drew.alloc _)
  have V:g≠w.heap.size:=Nat.ne_of_lt S.lt;obtain⟨a0,Q,l1,R⟩:=q3g (i:=i) (n:=n) (base:=base) F (Kj hin) hvl U hG hb wn (by rw[Xk,y,D];omega)
  first
  | (guard_hyp H
     rw[show(i+1) * 2=(i+1) * 2 by omega,show i * 2=i * 2 by omega] at R;rw[show i * 2=i * 2 by omega] at Q
     have M:∀b k,(Builtin.copy_ #[66,66] b #[.slice (some ⟨w.heap.size,i * 2,none⟩) (n+1 - i) k,.slice (some ⟨gv,0,none⟩) 1 1]).run prog f=.ok (goInt ((1:Nat))) (f.setCells w.heap.size (i * 2) vs):=fun b k=>
      z2e f _ _ b 102 i0 2 w.heap.size (i * 2) (n+1 - i) k ⟨gv,0,none⟩ 1 1 1 vs underlying66 hi hz1 (by simp only[Vn];split <;> omega) (by omega)
       (fun t u a=>by
         rw[Addr.add_lit,Yw,x.cell];exact a)
       (fun t X=>by
         rw[show i * 2=i * 2 by omega];exact z0n wn (o:=i * 2) (m:=2) (by rw[Xk,y,D];omega) t (by omega))
       hv1
     obtain⟨j,B⟩:∃j,j=f.setCells w.heap.size (i * 2) vs:=⟨_,rfl⟩)
  | (guard_hyp L
     rw[show(i+1) * 2=(i+1) * 2 by omega,show i * 2=i * 2 by omega] at R;rw[show i * 2=i * 2 by omega] at Q
     have M:∀b k,(Builtin.copy_ #[65,65] b #[.slice (some ⟨w.heap.size,i * 2,none⟩) (n+1 - i) k,.slice (some ⟨gv,0,none⟩) 1 1]).run prog f=.ok (goInt ((1:Nat))) (f.setCells w.heap.size (i * 2) vs):=fun b k=>
      z2e f _ _ b 97 i0 2 w.heap.size (i * 2) (n+1 - i) k ⟨gv,0,none⟩ 1 1 1 vs underlying65 hi hz1 (by simp only[Vn];split <;> omega) (by omega)
       (fun t u a=>by
         rw[Addr.add_lit,Yw,x.cell];exact a)
       (fun t X=>by
         rw[show i * 2=i * 2 by omega];exact z0n wn (o:=i * 2) (m:=2) (by rw[Xk,y,D];omega) t (by omega))
       hv1
     obtain⟨j,B⟩:∃j,j=f.setCells w.heap.size (i * 2) vs:=⟨_,rfl⟩)
  | (rw[show(i+1) * 7=(i+1) * 7 by omega,show i * 7=i * 7 by omega] at R
     rw[show i * 7=i * 7 by omega] at Q
     have M:∀b k,(Builtin.copy_ #[23,22] b #[.slice (some ⟨w.heap.size,i * 7,none⟩) (n+1 - i) k,.slice (some ⟨gv,0,none⟩) 1 1]).run prog f=.ok (goInt ((1:Nat))) (f.setCells w.heap.size (i * 7) vs):=fun b k=>
      z2e f _ _ b 70 i0 7 w.heap.size (i * 7) (n+1 - i) k ⟨gv,0,none⟩ 1 1 1 vs underlying23 hi hz1 (by simp only[Vn];split <;> omega) (by omega)
       (fun t u a=>by
         rw[Addr.add_lit,Yw,x.cell];exact a)
       (fun t X=>by
         rw[show i * 7=i * 7 by omega];exact z0n wn (o:=i * 7) (m:=7) (by rw[Xk,y,D];omega) t (by omega))
       hv1
     obtain⟨j,B⟩:∃j,j=f.setCells w.heap.size (i * 7) vs:=⟨_,rfl⟩)
  rw[←B] at M R Q;have E:w.grownBy j (some g):=by rw[B];exact z7l Z (z0h _ _ _) (Xb _)
  first
  | (guard_hyp H
     have J:Whole j g 102 l:=by rw[B];exact z.grown (z0h _ _ _) (by simpa using V)
     have K:∀b k O,(Builtin.copy_ #[66,66] b #[.slice (some ⟨w.heap.size,(i+1) * 2,none⟩) (n - i) k,.slice (some ⟨g,i * 2,none⟩) (n - i) O]).run prog j.drew=.ok (goInt ((n - i:Nat))) (j.drew.setCells w.heap.size ((i+1) * 2) (xs.drop (i * 2))):=fun b k O=>
      z2e j.drew _ _ b 102 i0 2 w.heap.size ((i+1) * 2) (n - i) k ⟨g,i * 2,none⟩ (n - i) O (n - i) _ underlying66 hi hz1 (by simp only[Vn];split <;> omega) N
       (fun t u a=>by
         rw[Yg] at a;have W:=e _ u a;have e1:=z.cell (i * 2+t);have Y:=S.cell (i * 2+t);have e3:=J.drew.cell (i * 2+t);rw[Addr.add_lit,show i * 2=i * 2 by omega,e3,←Y];exact W)
       (fun t X=>by
         rw[show(i+1) * 2=(i+1) * 2 by omega];exact z0n Q.drew (o:=(i+1) * 2) (m:=(n - i) * 2) (by rw[l1];omega) t (by omega))
       (fun u a=>h1 u (Yp a))
     have O2:=hid (show(j.drew.setCells w.heap.size ((i+1) * 2) (xs.drop (i * 2))).ownsRow base 102 2 (.slice (some ⟨w.heap.size,0,none⟩) (n+1) G) (n+1) (z15 xs vs (i * 2)) by rw[z5m];exact R);have G2:=hid (show w.grownBy (j.drew.setCells w.heap.size ((i+1) * 2) (xs.drop (i * 2))) (some g) from z7l (z97 E) (z0h _ _ _) (Xb _));obtain⟨T,P⟩:∃T,T=j.drew.setCells w.heap.size ((i+1) * 2) (xs.drop (i * 2)):=⟨_,rfl⟩)
  | (guard_hyp L
     have J:Whole j g 97 l:=by rw[B];exact z.grown (z0h _ _ _) (by simpa using V)
     have K:∀b k O,(Builtin.copy_ #[65,65] b #[.slice (some ⟨w.heap.size,(i+1) * 2,none⟩) (n - i) k,.slice (some ⟨g,i * 2,none⟩) (n - i) O]).run prog j.drew=.ok (goInt ((n - i:Nat))) (j.drew.setCells w.heap.size ((i+1) * 2) (xs.drop (i * 2))):=fun b k O=>
      z2e j.drew _ _ b 97 i0 2 w.heap.size ((i+1) * 2) (n - i) k ⟨g,i * 2,none⟩ (n - i) O (n - i) _ underlying65 hi hz1 (by simp only[Vn];split <;> omega) N
       (fun t u a=>by
         rw[Yg] at a;have W:=e _ u a;have e1:=z.cell (i * 2+t);have Y:=S.cell (i * 2+t);have e3:=J.drew.cell (i * 2+t);rw[Addr.add_lit,show i * 2=i * 2 by omega,e3,←Y];exact W)
       (fun t X=>by
         rw[show(i+1) * 2=(i+1) * 2 by omega];exact z0n Q.drew (o:=(i+1) * 2) (m:=(n - i) * 2) (by rw[l1];omega) t (by omega))
       (fun u a=>h1 u (Yp a))
     have O2:=hid (show(j.drew.setCells w.heap.size ((i+1) * 2) (xs.drop (i * 2))).ownsRow base 97 2 (.slice (some ⟨w.heap.size,0,none⟩) (n+1) G) (n+1) (z15 xs vs (i * 2)) by rw[z5m];exact R);have G2:=hid (show w.grownBy (j.drew.setCells w.heap.size ((i+1) * 2) (xs.drop (i * 2))) (some g) from z7l (z97 E) (z0h _ _ _) (Xb _));obtain⟨T,P⟩:∃T,T=j.drew.setCells w.heap.size ((i+1) * 2) (xs.drop (i * 2)):=⟨_,rfl⟩)
  | (have J:Whole j g 70 l:=by rw[B];exact z.grown (z0h _ _ _) (by simpa using V)
     have K:∀b k O,(Builtin.copy_ #[23,23] b #[.slice (some ⟨w.heap.size,(i+1) * 7,none⟩) (n - i) k,.slice (some ⟨g,i * 7,none⟩) (n - i) O]).run prog j.drew=.ok (goInt ((n - i:Nat))) (j.drew.setCells w.heap.size ((i+1) * 7) (xs.drop (i * 7))):=fun b k O=>
      z2e j.drew _ _ b 70 i0 7 w.heap.size ((i+1) * 7) (n - i) k ⟨g,i * 7,none⟩ (n - i) O (n - i) _ underlying23 hi hz1 (by simp only[Vn];split <;> omega) N
       (fun t u a=>by
         rw[Yg] at a;have W:=e _ u a;have e1:=z.cell (i * 7+t);have Y:=S.cell (i * 7+t);have e3:=J.drew.cell (i * 7+t);rw[Addr.add_lit,show i * 7=i * 7 by omega,e3,←Y];exact W)
       (fun t X=>by
         rw[show(i+1) * 7=(i+1) * 7 by omega];exact z0n Q.drew (o:=(i+1) * 7) (m:=(n - i) * 7) (by rw[l1];omega) t (by omega))
       (fun u a=>h1 u (Yp a))
     have O2:=hid (show(j.drew.setCells w.heap.size ((i+1) * 7) (xs.drop (i * 7))).ownsRow base 70 7 (.slice (some ⟨w.heap.size,0,none⟩) (n+1) G) (n+1) (z15 xs vs (i * 7)) by rw[z5m];exact R);have G2:=hid (show w.grownBy (j.drew.setCells w.heap.size ((i+1) * 7) (xs.drop (i * 7))) (some g) from z7l (z97 E) (z0h _ _ _) (Xb _));obtain⟨T,P⟩:∃T,T=j.drew.setCells w.heap.size ((i+1) * 7) (xs.drop (i * 7)):=⟨_,rfl⟩)
  rw[←P] at K O2 G2;unfold maxLen at hm hG;have a3:¬((i:Int)=(n:Int)):=by omega
  have ad:IntKind.i64.wrap ((i:Int)+1)=(i:Int)+1:=by rw[IntKind.wrap_i64];omega
  have a7:IntKind.i64.wrap ((n:Int)+1)=(n:Int)+1:=by rw[IntKind.wrap_i64];omega
  have a6:IntKind.i64.wrap ((n:Int)+1 - (i:Int))=(n:Int)+1 - (i:Int):=by rw[IntKind.wrap_i64];omega
  have ac:((i:Int)+1).toNat=i+1:=by omega
  have ab:i≤n:=by omega
  have ah:(0:Int)≤(i:Int)+1:=by omega
  have ag:(i:Int)≤(n:Int)+1:=by omega
  have aa:(i:Int)≤(n:Int):=by omega
  have a8:¬(c=i):=by omega
  have ae:¬(G=i+1):=by omega
  have a9:¬(G=i):=by omega
  have a4:(i:Int)≤(c:Int):=by omega
  have af:(c:Int) < (n:Int)+1:=by omega
  clear h h1 hv1 hvl hgv x l a0 S l0 Q l1 R F N B hi hz0 hz1 hz2 y e s A D I d wn Z z J E P
  first
  | (guard_hyp H
     go_enter func286,ntmps286
     go_wp2_with (first
      | (at_builtin;refine Lib.wpList_append_run _ rfl _ _ _ _ rfl _ _ rfl rfl _ _ (p _) ?_)
      | (at_builtin;refine z3b _ rfl _ _ 66 66 rfl _ _ rfl rfl (M _ _) ?_))
     go_region_law (refine z49 rfl _ _ 66 66 rfl _ _ (by simp[Act.eval,Act.put]) (by simp[Act.eval,Act.put]) (K _ _ _) ?_))
  | (guard_hyp L
     go_enter func277,ntmps277
     go_wp2_with (first
      | (at_builtin;refine Lib.wpList_append_run _ rfl _ _ _ _ rfl _ _ rfl rfl _ _ (p _) ?_)
      | (at_builtin;refine z3b _ rfl _ _ 65 65 rfl _ _ rfl rfl (M _ _) ?_))
     go_region_law (refine z49 rfl _ _ 65 65 rfl _ _ (by simp[Act.eval,Act.put]) (by simp[Act.eval,Act.put]) (K _ _ _) ?_))
  | (go_enter func303,ntmps303
     go_wp2_with (first
      | (at_builtin;refine Lib.wpList_append_run _ rfl _ _ _ _ rfl _ _ rfl rfl _ _ (p _) ?_)
      | (at_builtin;refine z3b _ rfl _ _ 23 22 rfl _ _ rfl rfl (M _ _) ?_))
     go_region_law (refine z49 rfl _ _ 23 23 rfl _ _ (by simp[Act.eval,Act.put]) (by simp[Act.eval,Act.put]) (K _ _ _) ?_))
  go_wp2;go_ret;exact⟨_,rfl,O2.o,G2.o,.inr rfl⟩
abbrev zz9:=@And.left _ _ q4p
abbrev zzf:=@And.left _ _ (@And.right _ _ q4p)
abbrev zzb:=@And.right _ _ (@And.right _ _ q4p)
theorem q7c:(∀(n i:Nat) (xs vs) (base gv:Nat) (v) (w:World) (hn:(n+1) * 24≤140737488355328) (hin:i≤n) (h:w.ownsRow base 102 2 v n xs) (h1:∀u∈xs,u.oneCell'=true) (hv1:∀u∈vs,u.oneCell'=true) (hvl:vs.length=2) (hgv:Whole w gv 102 vs) (hne:v.ownBlock≠some gv) (hb:base≤w.heap.size),Calls prog 286 #[v,.int .i64 i,.slice (some ⟨gv,0,none⟩) 1 1] w (zd9 (n+1) (z15 xs vs (i * 2)) base v w))∧(∀(n i:Nat) (xs vs) (base gv:Nat) (v) (w:World) (hn:(n+1) * 32≤140737488355328) (hin:i≤n) (h:w.ownsRow base 97 2 v n xs) (h1:∀u∈xs,u.oneCell'=true) (hv1:∀u∈vs,u.oneCell'=true) (hvl:vs.length=2) (hgv:Whole w gv 97 vs) (hne:v.ownBlock≠some gv) (hb:base≤w.heap.size),Calls prog 277 #[v,.int .i64 i,.slice (some ⟨gv,0,none⟩) 1 1] w (zdb (n+1) (z15 xs vs (i * 2)) base v w)):=by
 refine⟨?_,?_⟩;have a:=hid trivial
 rotate_left
 have d:=hid trivial
 all_goals
  intro n i xs vs base gv v w hn hin h h1 hv1 hvl hgv hne hb;rcases Yc i n with hlt|hge
  ·
   obtain⟨A,c,rfl,f,b,j⟩:=z05 h;rcases f with rfl|⟨g,rfl⟩
   ·
    exfalso;rcases h.2 with⟨_,h0⟩|⟨g',cap',cur,h',_⟩
    ·
     omega
    ·
     cases h'
   ·
    by_cases hr:n+1≤c
    first
    | (guard_hyp a
       ·
        exact q3d n i c g xs vs base gv w hlt hr h h1 hv1 hvl hgv (by
         rintro rfl;exact hne rfl)
       ·
        exact zz9 n i c g xs vs base gv w hn hlt b (by omega) h h1 hv1 hvl hgv hb)
    | (·
        exact q3f n i c g xs vs base gv w hlt hr h h1 hv1 hvl hgv (by
         rintro rfl;exact hne rfl)
       ·
        exact zzf n i c g xs vs base gv w hn hlt b (by omega) h h1 hv1 hvl hgv hb)
  ·
   obtain rfl:i=n:=by omega
   have e:z15 xs vs (i * 2)=xs++vs:=by
    have k:xs.length=i * 2:=h.1;unfold z15;rw[Xw (by omega),Ui (by omega),Ub]
   rw[e]
   first
   | (guard_hyp a
      exact zz6 i xs vs base gv v w hn h hv1 hvl hgv hb)
   | (exact zze i xs vs base gv v w hn h hv1 hvl hgv hb)
abbrev zp7:=@And.left _ _ q7c
abbrev zzg:=@And.right _ _ q7c
theorem zzd(n i:Nat)(xs vs)(base gv:Nat)(v)(w:World)(hn:(n+1) * 120≤140737488355328)(hin:i≤n)(h:w.ownsRow base 70 7 v n xs)(h1:∀u∈xs,u.oneCell'=true)(hv1:∀u∈vs,u.oneCell'=true)(hvl:vs.length=7)(hgv:Whole w gv 70 vs)(hne:v.ownBlock≠some gv)(hb:base≤w.heap.size):
  Calls prog 303 #[v,.int .i64 i,.slice (some ⟨gv,0,none⟩) 1 1] w (zda (n+1) (z15 xs vs (i * 7)) base v w):=by
 rcases Yc i n with hlt|hge
 ·obtain⟨A,c,rfl,a,b,d⟩:=z05 h;rcases a with rfl|⟨g,rfl⟩
  ·exfalso;rcases h.2 with⟨_,h0⟩|⟨g',cap',cur,h',_⟩
   ·omega
   ·cases h'
  ·by_cases hr:n+1≤c
   ·exact q3e n i c g xs vs base gv w hlt hr h h1 hv1 hvl hgv (by
     rintro rfl;exact hne rfl)
   ·exact zzb n i c g xs vs base gv w hn hlt b (by omega) h h1 hv1 hvl hgv hb
 ·obtain rfl:i=n:=by omega
  have e:z15 xs vs (i * 7)=xs++vs:=by
   have f:xs.length=i * 7:=h.1;unfold z15;rw[Xw (by omega),Ui (by omega),Ub]
  rw[e];exact zza i xs vs base gv v w hn h hv1 hvl hgv hb
end
end Go.Proofs.YtnmoajaelmimnaaGreatDoor
