/- Contracts; no condition but each theorem's own. -/
import Derived.Test.YtnmoajaelmimnaaGreatDoorSlY8
set_option linter.unusedVariables false
set_option linter.unusedSimpArgs false
set_option maxHeartbeats 8000000
set_option maxRecDepth 100000
namespace Go.Proofs.YtnmoajaelmimnaaGreatDoor
open Go.Proofs.Tryz
section
open Go.RowKit
def zo7(m:Nat)(ys:List Value)(base:Nat)(v:Value)(w:World)(e:Ending)(w':World):Prop:=
 ∃v',e=.returned v'∧w'.ownsRow base 9 1 v' m ys∧w.grownBy w' v.ownBlock∧v'.ownBlock=v.ownBlock
theorem zeroS:∀w,(zeroValue 9).run prog w=.ok (.string ⟨#[]⟩) w:=fun w=>by kernel_rfl
def zo6(m:Nat)(ys:List Value)(base:Nat)(v:Value)(w:World)(e:Ending)(w':World):Prop:=
 ∃v',e=.returned v'∧w'.ownsRow base 102 2 v' m ys∧w.grownBy w' v.ownBlock∧v'.ownBlock=v.ownBlock
theorem zeroC:∀w,(zeroValue 102).run prog w=.ok (.agg #[.int .i64 0,.string ⟨#[]⟩]) w:=fun w=>by kernel_rfl
def ziw(m:Nat)(ys:List Value)(base:Nat)(v:Value)(w:World)(e:Ending)(w':World):Prop:=
 ∃v',e=.returned v'∧w'.ownsRow base 24 1 v' m ys∧w.grownBy w' v.ownBlock∧v'.ownBlock=v.ownBlock
theorem q7o:∀w,(zeroValue 24).run prog w=.ok (.slice none 0 0) w:=fun w=>by kernel_rfl
theorem q7b:(∀(n i j:Nat) (xs) (base:Nat) (v) (w:World) (hn:n≤281474976710656) (hij:i < j) (hj:j≤n) (h:w.ownsRow base 70 7 v n xs) (h1:∀u∈xs,u.oneCell'=true),Calls prog 302 #[v,.int .i64 i,.int .i64 j] w (zxm (i+(n - j)) (xs.take (i * 7)++xs.drop (j * 7)) base v w))∧(∀(n i j:Nat) (xs) (base:Nat) (v) (w:World) (hn:n≤281474976710656) (hij:i < j) (hj:j≤n) (h:w.ownsRow base 102 2 v n xs) (h1:∀u∈xs,u.oneCell'=true),Calls prog 284 #[v,.int .i64 i,.int .i64 j] w (zo6 (i+(n - j)) (xs.take (i * 2)++xs.drop (j * 2)) base v w)):=by
 refine⟨?_,?_⟩;have p:=hid trivial
 rotate_left
 have Z:=hid trivial
 all_goals
  intro n i j xs base v w hn hij hj h h1
  first
  | (guard_hyp p
     obtain⟨i0,hi,hz0,hz1,hz2⟩:=info_parts zbu)
  | (obtain⟨i0,hi,hz0,hz1,hz2⟩:=info_parts z67)
  obtain⟨A,c,rfl,J,hc,Y⟩:=z05 h;rcases J with rfl|⟨g,rfl⟩
  ·
   exfalso;rcases h.2 with⟨_,F⟩|⟨g',cap',cur,h',_⟩
   ·
    omega
   ·
    cases h'
  obtain⟨C,M,L,V,K,_,_,s⟩:=z3j h
  first
  | (guard_hyp p
     have b:(xs.drop (j * 7)).length=(n - j) * 7:=by rw[Xr,s];omega
     obtain⟨r,d⟩:∃r,r=(Builtin.zeroCells (Value.cells (.agg #[.string ⟨#[]⟩,.int .i64 0,.string ⟨#[]⟩,.slice none 0 0,.slice none 0 0,.slice none 0 0,.int .i64 0])) (n - (i+(n - j)))).toList:=⟨_,rfl⟩;have x:r.length=(j - i) * 7:=by rw[d];simp[Builtin.zeroCells,Value.cells];omega)
  | (have b:(xs.drop (j * 2)).length=(n - j) * 2:=by rw[Xr,s];omega
     obtain⟨r,d⟩:∃r,r=(Builtin.zeroCells (Value.cells (.agg #[.int .i64 0,.string ⟨#[]⟩])) (n - (i+(n - j)))).toList:=⟨_,rfl⟩;have x:r.length=(j - i) * 2:=by rw[d];simp[Builtin.zeroCells,Value.cells];omega)
  obtain⟨E,H,R,G⟩:=zts (w:=w.drew) h hij hj x
  first
  | (guard_hyp p
     obtain⟨A,J,l⟩:∃A:Addr,(if c=j then (some ⟨g,0,none⟩:YV) else some ⟨g,j * 7,none⟩)=some A∧Hid (∀t u,(xs.drop (j * 7))[t]? = some u→w.drew.cell? (A.add t)=some u):=by
      by_cases hcj:c=j
      ·
       refine⟨⟨g,0,none⟩,by simp[hcj],hid (fun t u a=>?_)⟩;have F:(xs.drop (j * 7)).length=0:=by rw[b];omega
       rw[Vp.1 F] at a;simp at a
      ·
       refine⟨⟨g,j * 7,none⟩,by simp[hcj],hid (fun t u a=>?_)⟩;rw[Yg] at a;have z:=(Xe.1 a).1;have:=(h.cellAt (j * 7+t) (by omega)).trans a;unfold Addr.add;split
       ·
        have e:t=0:=by assumption
        subst e;exact this
       ·
        exact this
     have N:=hid b;have I:=hid (show ∀u∈xs.drop (j * 7),u.oneCell'=true from fun u a=>h1 u (Yp a));have D:(i+(n - j)) * 7≤c * 7:=Yk _ (by omega)
     have Q:=hid (show ∀t,t < (xs.drop (j * 7)).length→(w.drew.cell? ⟨g,0+i * 7+t,none⟩).isSome=true∧w.drew.frozen? ⟨g,0+i * 7+t,none⟩=false from fun t B=>by
      rw[Yw];exact z0n M (o:=i * 7) (m:=(n - j) * 7) (by rw[L];omega) t (by omega))
     obtain⟨k,f⟩:∃k,k=w.drew.setCells g (0+i * 7) (xs.drop (j * 7)):=⟨_,rfl⟩
     have S:∀y,(Builtin.clear_ #[23] y #[.slice (some ⟨g,(i+(n - j)) * 7,none⟩) (n - (i+(n - j))) (c - (i+(n - j)))]).run prog k=.ok (.tuple #[]) (k.setCells g ((i+(n - j)) * 7) r):=fun y=>by
      have:=z3l (P:=prog) k 23 70 y (.agg #[.string ⟨#[]⟩,.int .i64 0,.string ⟨#[]⟩,.slice none 0 0,.slice none 0 0,.slice none 0 0,.int .i64 0]) underlying23 zeroE (by intro u a;simp[Value.cells] at a;rcases a with rfl|rfl|rfl|rfl|rfl|rfl|rfl <;> rfl) g ((i+(n - j)) * 7) (n - (i+(n - j))) (c - (i+(n - j))) (by omega) (fun t B=>by
       rw[f,Yw];exact z0n (w:=(w.drew.setCells g (i * 7) (xs.drop (j * 7)))) H (o:=(i+(n - j)) * 7) (m:=(n - (i+(n - j))) * 7) (by rw[R];omega) t (by simpa[Value.cells] using B))
      rw[←d,show(i+(n - j)) * 7=(i+(n - j)) * 7 by omega] at this;exact this
     rw[show(i+(n - j)) * 7=(i+(n - j)) * 7 by omega] at G)
  | (obtain⟨A,J,l⟩:∃A:Addr,(if c=j then (some ⟨g,0,none⟩:YV) else some ⟨g,j * 2,none⟩)=some A∧Hid (∀t u,(xs.drop (j * 2))[t]? = some u→w.drew.cell? (A.add t)=some u):=by
      by_cases hcj:c=j
      ·
       refine⟨⟨g,0,none⟩,by simp[hcj],hid (fun t u a=>?_)⟩;have F:(xs.drop (j * 2)).length=0:=by rw[b];omega
       rw[Vp.1 F] at a;simp at a
      ·
       refine⟨⟨g,j * 2,none⟩,by simp[hcj],hid (fun t u a=>?_)⟩;rw[Yg] at a;have z:=(Xe.1 a).1;have:=(h.cellAt (j * 2+t) (by omega)).trans a;unfold Addr.add;split
       ·
        have e:t=0:=by assumption
        subst e;exact this
       ·
        exact this
     have N:=hid b;have I:=hid (show ∀u∈xs.drop (j * 2),u.oneCell'=true from fun u a=>h1 u (Yp a));have D:(i+(n - j)) * 2≤c * 2:=Yk _ (by omega)
     have Q:=hid (show ∀t,t < (xs.drop (j * 2)).length→(w.drew.cell? ⟨g,0+i * 2+t,none⟩).isSome=true∧w.drew.frozen? ⟨g,0+i * 2+t,none⟩=false from fun t B=>by
      rw[Yw];exact z0n M (o:=i * 2) (m:=(n - j) * 2) (by rw[L];omega) t (by omega))
     obtain⟨k,f⟩:∃k,k=w.drew.setCells g (0+i * 2) (xs.drop (j * 2)):=⟨_,rfl⟩
     have S:∀y,(Builtin.clear_ #[66] y #[.slice (some ⟨g,(i+(n - j)) * 2,none⟩) (n - (i+(n - j))) (c - (i+(n - j)))]).run prog k=.ok (.tuple #[]) (k.setCells g ((i+(n - j)) * 2) r):=fun y=>by
      have:=z3l (P:=prog) k 66 102 y (.agg #[.int .i64 0,.string ⟨#[]⟩]) underlying66 zeroC (by intro u a;simp[Value.cells] at a;rcases a with rfl|rfl <;> rfl) g ((i+(n - j)) * 2) (n - (i+(n - j))) (c - (i+(n - j))) (by omega) (fun t B=>by
       rw[f,Yw];exact z0n (w:=(w.drew.setCells g (i * 2) (xs.drop (j * 2)))) H (o:=(i+(n - j)) * 2) (m:=(n - (i+(n - j))) * 2) (by rw[R];omega) t (by simpa[Value.cells] using B))
      rw[←d,show(i+(n - j)) * 2=(i+(n - j)) * 2 by omega] at this;exact this
     rw[show(i+(n - j)) * 2=(i+(n - j)) * 2 by omega] at G)
  have W:=hid G;have O:=hid f;have U:i≤c:=by omega
  have X:j≤c:=by omega
  have z:i < j:=hij;unfold maxLen at Y;clear h h1 C M L V K s b d x H R G E f D
  first
  | (guard_hyp p
     go_enter func302,ntmps302;go_wp2_with fail
     go_region_law (refine step_append_room rfl (.tmp 22) (.tmp 25) 23 rfl 70 i0 7 underlying23 hi hz1 g 0 i c (by simp[Act.eval,Act.put]) A (n - j) (c - j) (xs.drop (j * 7)) (by simp[Act.eval,Act.put]) N.o l.o I.o (by omega) Q.o ?_;rw[←O.o]))
  | (go_enter func284,ntmps284
     go_wp2_with fail
     go_region_law (refine step_append_room rfl (.tmp 22) (.tmp 25) 66 rfl 102 i0 2 underlying66 hi hz1 g 0 i c (by simp[Act.eval,Act.put]) A (n - j) (c - j) (xs.drop (j * 2)) (by simp[Act.eval,Act.put]) N.o l.o I.o (by omega) Q.o ?_;rw[←O.o]))
  go_wp2;go_ret;have T:=O.o;rw[Yw] at T;subst T;exact⟨_,rfl,W.o,z5k ((z0h _ _ _).trans (z0h _ _ _)),rfl⟩
abbrev zyn:=@And.left _ _ q7b
abbrev zym:=@And.right _ _ q7b
theorem q6y:(∀(n i j:Nat) (xs) (base:Nat) (v) (w:World) (hn:n≤1000000) (hij:i < j) (hj:j≤n) (h:w.ownsRow base 9 1 v n xs) (h1:∀u∈xs,u.oneCell'=true),Calls prog 125 #[v,.int .i64 i,.int .i64 j] w (zo7 (i+(n - j)) (xs.take (i * 1)++xs.drop (j * 1)) base v w))∧(∀(n i j:Nat) (xs) (base:Nat) (v) (w:World) (hn:n≤1000000) (hij:i < j) (hj:j≤n) (h:w.ownsRow base 24 1 v n xs) (h1:∀u∈xs,u.oneCell'=true),Calls prog 128 #[v,.int .i64 i,.int .i64 j] w (ziw (i+(n - j)) (xs.take (i * 1)++xs.drop (j * 1)) base v w)):=by
 refine⟨?_,?_⟩;have d:=hid trivial
 rotate_left
 have Z:=hid trivial
 all_goals
  intro n i j xs base v w hn hij hj h h1
  first
  | (guard_hyp d
     obtain⟨i0,hi,hz0,hz1,hz2⟩:=info_parts z2y)
  | (obtain⟨i0,hi,hz0,hz1,hz2⟩:=info_parts zi5)
  obtain⟨A,c,rfl,N,hc,Y⟩:=z05 h;rcases N with rfl|⟨g,rfl⟩
  ·
   exfalso;rcases h.2 with⟨_,L⟩|⟨g',cap',cur,h',_⟩
   ·
    omega
   ·
    cases h'
  obtain⟨y,Q,O,V,H,_,_,x⟩:=z3j h;have s:(xs.drop (j * 1)).length=(n - j) * 1:=by rw[Xr,x];omega
  first
  | (guard_hyp d
     obtain⟨k,b⟩:∃k,k=(Builtin.zeroCells (Value.cells (.string ⟨#[]⟩)) (n - (i+(n - j)))).toList:=⟨_,rfl⟩)
  | (obtain⟨k,b⟩:∃k,k=(Builtin.zeroCells (Value.cells (.slice none 0 0)) (n - (i+(n - j)))).toList:=⟨_,rfl⟩)
  have z:k.length=(j - i) * 1:=by rw[b];simp[Builtin.zeroCells,Value.cells];omega
  obtain⟨B,D,J,G⟩:=zts (w:=w.drew) h hij hj z
  obtain⟨A,N,p⟩:∃A:Addr,(if c=j then (some ⟨g,0,none⟩:YV) else some ⟨g,j,none⟩)=some A∧Hid (∀t u,(xs.drop (j * 1))[t]? = some u→w.drew.cell? (A.add t)=some u):=by
   by_cases hcj:c=j
   ·
    refine⟨⟨g,0,none⟩,by simp[hcj],hid (fun t u a=>?_)⟩;have L:(xs.drop (j * 1)).length=0:=by rw[s];omega
    rw[Vp.1 L] at a;simp at a
   ·
    refine⟨⟨g,j * 1,none⟩,by simp[hcj],hid (fun t u a=>?_)⟩;rw[Yg] at a;have E:=(Xe.1 a).1;have:=(h.cellAt (j * 1+t) (by omega)).trans a;unfold Addr.add;split
    ·
     have e:t=0:=by assumption
     subst e;exact this
    ·
     exact this
  have R:=hid s;have M:=hid (show ∀u∈xs.drop (j * 1),u.oneCell'=true from fun u a=>h1 u (Yp a));have F:(i+(n - j)) * 1≤c * 1:=Yk _ (by omega)
  have S:=hid (show ∀t,t < (xs.drop (j * 1)).length→(w.drew.cell? ⟨g,0+i * 1+t,none⟩).isSome=true∧w.drew.frozen? ⟨g,0+i * 1+t,none⟩=false from fun t C=>by
   rw[Yw];exact z0n Q (o:=i * 1) (m:=(n - j) * 1) (by rw[O];omega) t (by omega))
  obtain⟨l,f⟩:∃l,l=w.drew.setCells g (0+i * 1) (xs.drop (j * 1)):=⟨_,rfl⟩
  first
  | (guard_hyp d
     have K:∀r,(Builtin.clear_ #[24] r #[.slice (some ⟨g,(i+(n - j)),none⟩) (n - (i+(n - j))) (c - (i+(n - j)))]).run prog l=.ok (.tuple #[]) (l.setCells g ((i+(n - j))) k):=fun r=>by
      have:=z3l (P:=prog) l 24 9 r (.string ⟨#[]⟩) underlying24 zeroS (by intro u a;simp[Value.cells] at a;rcases a with rfl|rfl <;> rfl) g ((i+(n - j)) * 1) (n - (i+(n - j))) (c - (i+(n - j))) (by omega) (fun t C=>by
       rw[f,Yw];exact z0n (w:=(w.drew.setCells g (i * 1) (xs.drop (j * 1)))) D (o:=(i+(n - j)) * 1) (m:=(n - (i+(n - j))) * 1) (by rw[J];omega) t (by simpa[Value.cells] using C))
      rw[←b,show(i+(n - j)) * 1=(i+(n - j)) by omega] at this;exact this)
  | (have K:∀r,(Builtin.clear_ #[40] r #[.slice (some ⟨g,(i+(n - j)),none⟩) (n - (i+(n - j))) (c - (i+(n - j)))]).run prog l=.ok (.tuple #[]) (l.setCells g ((i+(n - j))) k):=fun r=>by
      have:=z3l (P:=prog) l 40 24 r (.slice none 0 0) underlying40 q7o (by intro u a;simp[Value.cells] at a;rcases a with rfl|rfl <;> rfl) g ((i+(n - j)) * 1) (n - (i+(n - j))) (c - (i+(n - j))) (by omega) (fun t C=>by
       rw[f,Yw];exact z0n (w:=(w.drew.setCells g (i * 1) (xs.drop (j * 1)))) D (o:=(i+(n - j)) * 1) (m:=(n - (i+(n - j))) * 1) (by rw[J];omega) t (by simpa[Value.cells] using C))
      rw[←b,show(i+(n - j)) * 1=(i+(n - j)) by omega] at this;exact this)
  rw[show(i+(n - j)) * 1=(i+(n - j)) by omega] at G;have W:=hid G;have I:=hid f;have U:i≤c:=by omega
  have X:j≤c:=by omega
  have E:i < j:=hij;unfold maxLen at Y;clear h h1 y Q O V H x s b z D J G B f F
  first
  | (guard_hyp d
     go_enter func125,ntmps125;go_wp2_with fail
     go_region_law (refine step_append_room rfl (.tmp 22) (.tmp 25) 24 rfl 9 i0 1 underlying24 hi hz1 g 0 i c (by simp[Act.eval,Act.put]) A (n - j) (c - j) (xs.drop (j * 1)) (by simp[Act.eval,Act.put]) R.o p.o M.o (by omega) S.o ?_;rw[←I.o]))
  | (go_enter func128,ntmps128
     go_wp2_with fail
     go_region_law (refine step_append_room rfl (.tmp 22) (.tmp 25) 40 rfl 24 i0 1 underlying40 hi hz1 g 0 i c (by simp[Act.eval,Act.put]) A (n - j) (c - j) (xs.drop (j * 1)) (by simp[Act.eval,Act.put]) R.o p.o M.o (by omega) S.o ?_;rw[←I.o]))
  go_wp2;go_ret;have T:=I.o;rw[Yw] at T;subst T;exact⟨_,rfl,W.o,z5k ((z0h _ _ _).trans (z0h _ _ _)),rfl⟩
abbrev zos:=@And.left _ _ q6y
abbrev ztr:=@And.right _ _ q6y
theorem zyf(g:Nat)(lb:Array Value)(eg:∀args w,(callFunc g args).run prog w=.ok (.enter g args) w)(p:YY→Bool)(D:Nat)(l:YX)(A:YV)(c B:Nat)(w)(hp:zm0 g lb p D w)(hl:l.length≤281474976710656)(hB:B≤w.heap.size)
  (hsl:Sl w B 1 (.slice A l.length c) l.length (z03 l)):
  Calls prog 112 #[.slice A l.length c,.func (Fn.func g) #[] lb] w fun e w'=>e=.returned (.bool (l.any p))∧Fr [] w w':=by
 have I:=hid (zp6 g lb eg p D l A c B w hp hl hB hsl);have h:=z61 p l;clear hsl hp;generalize z3c p l=r at *;generalize l.any p=b at *;generalize l.length=n at *;cases b;have a:=hid trivial
 all_goals
  first
  | (guard_hyp a
     have hr:r < 0:=by simpa using h)
  | (have hr:0≤r:=by simpa using h)
  clear h;go_enter func112,ntmps112;go_wp2_with fail;refine I.o.mono ?_;rintro e f ⟨rfl,d⟩;go_wp2;go_ret;exact⟨by simp <;> omega,d⟩
def z10(l:YX):Int:=if l.length=0 then 1 else if 12 < l.length then 2 else if l.any z5a=true then 2 else 0
theorem z6o{l:YX}(h:z10 l=0):q7j l:=by
 unfold z10 at h;split at h
 ·cases h
 ·split at h
  ·cases h
  ·split at h
   ·cases h
   ·rename_i h1 h2 h3;refine⟨by omega,by omega,fun s hs=>?_⟩;have:=h3;simp only[Bool.not_eq_true,Ue] at this;have:=this s hs;unfold z5a at this;simp at this;exact this
theorem zqc(s)(w):Calls prog 113 (#[.string s]++#[]) w fun e w'=>e=.returned (.bool (z5a s))∧w'=w:=by
 unfold z5a;go_enter func113,ntmps113;go_wp2;go_ret;exact⟨by simp <;> omega,rfl⟩
theorem zaq(l:YX)(A)(c B:Nat)(w:World)(hl:l.length≤281474976710656)(hB:B≤w.heap.size)(h:Sl w B 1 (.slice A l.length c) l.length (z03 l)):
  Calls prog 66 #[.slice A l.length c] w fun e w'=>e=.returned (.int .i64 (z10 l))∧Fr [] w w':=by
 have d:=hid (zyf 113 #[] (z1b func113 (by kernel_rfl) rfl) z5a w.heap.size l A c B w (fun W x k=>(zqc x W).mono fun e w' ⟨he,hw⟩=>⟨he,by rw[hw];exact Fr.refl _ _⟩) hl hB h);have a:z10 l=if l.length=0 then 1 else if 12 < l.length then 2 else if l.any z5a=true then 2 else 0:=rfl
 clear h;by_cases h0:l.length=0
 ·rw[a,Xf h0];have q:((l.length:Int)==0)=true:=beq_iff_eq.2 (by omega);clear a d;go_enter func66,ntmps66;go_wp2;go_ret;exact⟨rfl,Fr.refl _ _⟩
 ·have q:((l.length:Int)==0)=false:=beq_eq_false_iff_ne.2 (by omega);rw[a,Xc h0];by_cases h12:12 < l.length
  ·rw[Xf h12];clear a d h0;have g:(l.length:Int) > 12:=by omega
   go_enter func66,ntmps66;go_wp2;go_ret;exact⟨rfl,Fr.refl _ _⟩
  ·rw[Xc h12];have g:¬(l.length:Int) > 12:=by omega
   clear a h0;generalize l.any z5a=b at *;cases b
   all_goals
    go_enter func66,ntmps66;go_wp2_with fail;refine d.o.mono ?_;rintro e j ⟨rfl,f⟩;go_wp2;go_ret;exact⟨rfl,f⟩
def ofV(v:Value)(x:Itm):Value:=if many x=0 then .agg #[.int .i64 0,.string ⟨#[]⟩,.slice none 0 0,.slice none 0 0,.slice none 0 0] else v
theorem zpk(x:Itm)(v)(w:World)(B:Nat)(hs:x.Small)(hB:B≤w.heap.size)(h:z0p w B v x)(hk:x.kind≠1):
  Calls prog 309 #[v] w fun e w'=>e=.returned (ofV v x)∧Fr [] w w':=by
 have M:=hid (fun W (hf:Fr [] w W)=>zhr x v W B hs (h.fr hf hB (by simp)));obtain⟨b,c1,g,c2,f,d,rfl,G,E,h3⟩:=h;have y:Fr [] w ((w.alloc (.cells (yIa x b c1 g c2 f d) 68)).alloc (.cells yIza 68)):=((Fr.refl [] w).alloc _).alloc _;have p:=hid (show Whole ((w.alloc (.cells (yIa x b c1 g c2 f d) 68)).alloc (.cells yIza 68)) w.heap.size 68 (yIl x b c1 g c2 f d) from(Whole.new w _ _).alloc _)
 have I:=hid (show Whole ((w.alloc (.cells (yIa x b c1 g c2 f d) 68)).alloc (.cells yIza 68)) (w.heap.size+1) 68 yIzl from by
  have:=Whole.new (w.alloc (.cells (yIa x b c1 g c2 f d) 68)) 68 yIzl;simpa using this)
 have O:(x.kind != 1)=true:=by simpa using hk
 obtain⟨u,r,k,l,z⟩:=five p.o;clear G E h3 hs hk;unfold ofV;generalize many x=m at *;by_cases hm:m=0;have a:=hid trivial
 all_goals
  first
  | (guard_hyp a
     subst hm;rw[Xf rfl])
  | (rw[Xc hm]
     have R:((m:Int)==0)=false:=by simp;omega)
  go_enter func309,ntmps309;go_wp2_with fail;refine(M.o _ y).mono ?_;rintro e J ⟨rfl,j⟩;have F:=y.trans j;have H:=hid (p.o.fr j (by simp));have n:=hid (I.o.fr j (by simp));clear u r k l z;obtain⟨u,r,k,l,z⟩:=five H.o;obtain⟨A,C,D,s,t⟩:=five n.o;obtain⟨N,Q,L,P,K⟩:=z11 n.o;go_wp2
  first
  | (guard_hyp a
     refine Xg (v:=.agg yIza) (by simp[results,results309,go_sem,A,C,D,s,t]) rfl ?_)
  | (refine Xg (v:=.agg (yIa x b c1 g c2 f d)) (by simp[results,results309,go_sem,A,C,D,s,t]) rfl ?_)
  refine⟨rfl,z6s F (by omega) _ _ _ _ _⟩
def zq5(g:Nat)(lb:Array Value)(p:(YY×YY)→Bool)(B:Nat)(w:World):Prop:=
 ∀W (x:(YY×YY)),FrB [] B w W→Calls prog g (#[.agg #[.string x.1,.string x.2]]++lb) W fun e w'=>e=.returned (.bool (p x))∧Fr [] W w'
theorem zpv(l:YX)(A)(c:Nat)(w:World)(B:Nat)(hl:l.length≤281474976710656)(hB:B≤w.heap.size)(h:Sl w B 1 (.slice A l.length c) l.length (z03 l)):
  Calls prog 260 #[.slice A l.length c] w fun e w'=>e=.returned (.int .i64 (z1a l))∧Fr [] w w':=by
 have C:=hid (zol l A c B w hl hB h);unfold z1a;generalize l.any z5a=b at *;clear h;by_cases hm:l.length=0
 ·rw[Xf hm];have q:((l.length:Int)==0)=true:=by simp[hm]
  go_enter func260,ntmps260;go_wp2;go_ret;exact⟨rfl,Fr.refl [] w⟩
 ·rw[Xc hm];have q:((l.length:Int)==0)=false:=beq_eq_false_iff_ne.2 (by omega);clear hm;cases b
  all_goals
   go_enter func260,ntmps260;go_wp2_with fail;refine C.o.mono ?_;rintro e d ⟨rfl,a⟩;go_wp2;go_ret;exact⟨rfl,a⟩
def Turned(l d:YX)(m:Nat):Prop:=d.length=l.length∧∀t,t < l.length→d[t]? = if t < m∨l.length < t+1+m then l[l.length - 1 - t]? else l[t]?
theorem zo0(l):Turned l l 0:=⟨rfl,fun t ht=>by rw[Xc (by omega)]⟩
theorem znz{l d:YX}{m:Nat}{a b:YY}(h:Turned l d m)(hm:m+1+m < l.length)(ha:d[m]? = some a)(hb:d[l.length - 1 - m]? = some b):
  Turned l ((d.set m b).set (l.length - 1 - m) a) (m+1):=by
 refine⟨by simp[h.1],fun t g=>?_⟩;have j:=h.1;have f:=h.2 m (by omega);have e:=h.2 (l.length - 1 - m) (by omega);rw[Xc (by omega),ha] at f;rw[Xc (by omega),hb] at e;by_cases h1:t=l.length - 1 - m
 ·rw[h1,Ut (by simp;omega),Xf (by omega),show l.length - 1 - (l.length - 1 - m)=m by omega];exact f
 ·rw[Um (by omega)];by_cases h2:t=m
  ·rw[h2,Ut (by omega),Xf (by omega)];exact e
  ·rw[Um (by omega),h.2 t g];by_cases h3:t < m∨l.length < t+1+m
   ·rw[Xf h3,Xf (by omega)]
   ·rw[Xc h3,Xc (by omega)]
theorem zs7{l d:YX}{m:Nat}(h:Turned l d m)(hm:l.length≤m+1+m):d=l.reverse:=by
 apply Ji;intro t;by_cases ht:t < l.length
 ·rw[h.2 t ht,List.getElem?_reverse ht];by_cases h3:t < m∨l.length < t+1+m
  ·rw[Xf h3]
  ·rw[Xc h3];congr 1;omega
 ·rw[Uj (by have:=h.1;omega),Uj (by simp;omega)]
def q25(l:YX)(base:Nat)(v:Value)(w:World)(e:Ending)(w':World):Prop:=e=.returned (.tuple #[])∧w'.ownsRow base 9 1 v l.length (z03 l.reverse)∧w.grownBy w' v.ownBlock
theorem q4e(l:YX)(base:Nat)(v)(w:World)(hl:l.length≤1000000)(h:w.ownsRow base 9 1 v l.length (z03 l)):
  Calls prog 261 #[v] w (q25 l base v w):=by
 obtain⟨A,c,rfl,M,T,S⟩:=z05 h;rcases M with rfl|⟨g,rfl⟩
 ·have p:l.length=0:=by
   rcases h.2 with⟨_,p⟩|⟨g',cap',cur,h',_⟩
   ·exact p
   ·cases h'
  obtain rfl:l=[]:=Xo p;have H:=hid h;clear h p;go_enter func261,ntmps261;go_wp2;go_loopg [2,3] 0 (fun _ x z wr=>x=.int .i64 0∧z=.int .i64 (-1)∧wr=w)
  case atStart=>exact⟨rfl,rfl,rfl⟩
  case round=>
   obtain⟨rfl,rfl,rfl⟩:=hrel;go_wp2
   go_end0
   exact⟨rfl,H.o,z98 _ _⟩
 ·have H:=hid h;clear h;go_enter func261,ntmps261;go_wp2
  go_loopg [2,3] l.length (fun k x z wr=>∃(m:Nat) (d:YX),k=l.length - m∧m≤l.length∧x=.int .i64 m∧z=.int .i64 ((l.length:Int) - 1 - (m:Int))∧Turned l d m ∧
   wr.ownsRow base 9 1 (.slice (some ⟨g,0,none⟩) l.length c) l.length (z03 d)∧w.grownBy wr (some g))
  case atStart=>exact⟨0,l,rfl,Xt _,rfl,by simp,zo0 l,H.o,z98 _ _⟩
  case round=>
   obtain⟨m,d,rfl,P,rfl,rfl,s,e,r⟩:=hrel;have F:=hid s;have f:=s.1;by_cases hlt:m+1+m < l.length
   ·obtain⟨a,B⟩:∃a,d[m]? = some a:=⟨_,Xa (by omega)⟩;obtain⟨b,t⟩:∃b,d[l.length - 1 - m]? = some b:=⟨_,Xa (by omega)⟩;obtain⟨j,n⟩:∃j,j=l.length - 1 - m:=⟨_,rfl⟩;have c1:wr.cell? ⟨g,m,none⟩=some (.string a):=(e.cellAt m (by omega)).trans (z0x d m a B);have c2:wr.cell? ⟨g,j,none⟩=some (.string b):=(e.cellAt j (by omega)).trans (z0x d j b (by rw[n];exact t));have Q:=e.frozenAt m;have R:=e.frozenAt j;have L:=hid B;have J:=hid t;have y:=hid e;have u:=hid r;have E:(l.length:Int) - 1 - (m:Int)=(j:Int):=by omega
    rw[E];have K:j < l.length:=by omega
    have I:m < j:=by omega
    have G:=hid n;clear s e r B t n E f;go_wp2_with fail
    go_region
    go_wp2;go_roundg (l.length - (m+1))
    case measure=>omega
    case rel=>
     have D:=(y.o.stored m (.string b));have C:=(D.1.stored j (.string a));have N:=znz F.o hlt L.o J.o;have n:=G.o;refine⟨m+1,(d.set m b).set j a,rfl,by omega,by simp,?_,by rw[n];exact N,by rw[zcd,zcd];exact C.1,z97 ((u.o.trans D.2).trans C.2)⟩;congr 1;omega
   ·have N:=zs7 F.o (by omega);clear s f;have y:=hid e;have u:=hid r;have O:=hid N;clear e r N;go_wp2
    go_end0
    exact⟨rfl,by rw[←O.o];exact y.o,u.o⟩
def zq4(g:Nat)(lb:Array Value)(p:(Int×YY)→Bool)(B:Nat)(w:World):Prop:=
 ∀W (x:(Int×YY)),FrB [] B w W→Calls prog g (#[.agg #[.int .i64 x.1,.string x.2]]++lb) W fun e w'=>e=.returned (.bool (p x))∧Fr [] W w'
end
section
open Go.ChangeShapes Go.WideShapes Go.RowKit Go.Deep
theorem zt7:prog.cellsOf 68=5:=by kernel_rfl
section
variable {H:Type} {enc:TypeId×Value→H} {w:World}
theorem zvz{fuel:Nat}{l:List Value}{xd:DataW H×List MemPlace}(hsz:l.length=5)(hf:DataW.trod enc prog w 0 (fun _=>true) true fuel 68 l=some xd)
  (hw:∀q∈xd.1.weights prog 68,q≤reachBytes):∃x,z0p w w.heap.size (.agg l.toArray) x∧x.Small:=by
 match l,hsz with
 | [a0,a1,a2,a3,a4],_=>
  obtain⟨Q,k,_,I,_,j,a⟩:=DataW.trod_struct underlying68 hf;have f0:=a 0 _ rfl;have p:=a 1 _ rfl;have s:=a 2 _ rfl;have y:=a 3 _ rfl;have u:=a 4 _ rfl;have O:prog.cellsOf 24=1:=by kernel_rfl
  have F:prog.cellsOf 65=1:=by kernel_rfl
  have P:prog.cellsOf 66=1:=by kernel_rfl
  simp[z8r,zdd,O,F,P] at f0 p s y u
  match Q,j with
  | [y0,y1,y2,y3,y4],_=>
   rw[I] at hw;simp only[DataW.weights,underlying68,Yv,Vr,DataW.weightsEach,Ub,Ys] at hw;obtain⟨n,r,rfl,h⟩:=DataW.trod_int underlying3 f0;obtain⟨t,m,rfl,_⟩:=DataW.trod_string underlying9 p;obtain⟨z,c1,R,g,K,C,D⟩:=zev s (fun q d=>hw q (by simp[d]));obtain⟨S,c2,T,b,B,A,U⟩:=zw0 y (fun q d=>hw q (by simp[d]));obtain⟨M,J,G,f,N,L,E⟩:=zri u (fun q d=>hw q (by simp[d]));simp[Value.cells] at r m g b f;subst r;subst m;subst g;subst b;subst f;refine⟨⟨n,t,R,T,G⟩,⟨z,c1,S,c2,M,J,rfl,K,B,N⟩,⟨bounds_i64 h,?_,C,A,L,D,U,E⟩⟩;have:=hw t.data.toList.length (by simp[DataW.weights]);unfold reachBytes at this;have e:t.data.toList.length=t.size:=by simp
   show t.size≤_;omega
end
theorem zy3:prog.bytesOf 24=24:=by kernel_rfl
theorem zy7:prog.cellsOf 24=1:=by kernel_rfl
section
variable {H:Type} {enc:TypeId×Value→H} {w:World}
theorem q0a{fuel:Nat}{cs:List Value}{x:DataW H×List MemPlace}(h:DataW.trod enc prog w 0 (fun _=>true) true fuel 40 cs=some x)(hw:∀q∈x.1.weights prog 40,q≤reachBytes):
  ∃A c l,cs=[.slice A l.length c]∧z5g w w.heap.size (.slice A l.length c) l∧l.length≤5864062014634∧∀r∈l,r.length≤281474976710656∧∀s∈r,s.size≤281474976710656:=by
 rcases open_slice underlying40 h with⟨G,I⟩|⟨a,len,cap,m,n,D,Pl,G,_,hl,hm,hmm,d,hi⟩
 ·exact⟨none,0,[],G,z5g.nil _ _,by simp,fun x d=>by cases d⟩
 ·rw[d] at hw;obtain⟨E,N⟩:=z4n underlying40 hw;simp only[if_true] at hmm;rw[zy3] at E;simp only[Xx,Ju] at E;unfold reachBytes at E;rw[zy7] at hi
  have g:∀i,i < len→∃q:Value×YX,w.cell? (a.add i)=some q.1∧TxV w w.heap.size q.1 q.2∧q.2.length≤281474976710656∧∀s∈q.2,s.size≤281474976710656:=by
   intro i y;obtain⟨S,C,O⟩:=hi i (by omega);obtain⟨_,V,B⟩:=World.cells?_some C;have I:=N (D i) (Yt.2 ⟨i,by simpa using y,rfl⟩);obtain⟨J,c1,r,hr,T,Q,R⟩:=zev O I;have k:=B 0 (by omega);subst hr;have U:(a.add (i * 1)).add 0=a.add i:=by rw[Vo];rfl
   rw[U] at k;exact⟨(.slice J r.length c1,r),k,⟨J,c1,rfl,T⟩,Q,R⟩
  obtain⟨l,z,t⟩:=zkf _ len g;subst z;refine⟨some a,cap,l.map (·.2),by rw[Xx];exact G,⟨_,_,l.map (·.1),rfl,⟨by simp,fun i x d=>?_⟩,?_⟩,by rw[Xx];omega,fun x d=>?_⟩
  ·rw[Uc] at d;obtain⟨q,e,rfl⟩:=Yr.1 d;exact⟨q.1,by rw[Uc,e];rfl,(t i q e).2.1⟩
  ·rw[Xx];rcases Yq l.length with h0|h0
   ·exact⟨_,_,rfl,by simp,hl,hm,fun h=>absurd h (by omega)⟩
   ·obtain⟨M,F⟩:∃p,l[0]? = some p:=⟨_,Xa h0⟩;have f:=(t 0 M F).1;have k:a.add 0=a:=rfl;rw[k] at f;obtain⟨L,P⟩:=z8q f;refine zbj (b:=a.block) (o:=a.off) (fun _=>by rw[←L]) (by simp) hl hm (fun _=>P) (fun j u K=>?_);rw[Uc] at K;obtain⟨q,e,rfl⟩:=Yr.1 K;have:=(t j q e).1;rw[L,z6g] at this;exact this
  ·obtain⟨q,e,rfl⟩:=Yt.1 d;obtain⟨i,hi⟩:=Yd e;exact(t i q hi).2.2
end
end
end Go.Proofs.YtnmoajaelmimnaaGreatDoor
