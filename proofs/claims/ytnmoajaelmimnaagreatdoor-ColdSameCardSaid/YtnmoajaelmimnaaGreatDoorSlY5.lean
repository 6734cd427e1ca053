/- Contracts; no condition but each theorem's own. -/
import Derived.Test.YtnmoajaelmimnaaGreatDoorSlY4
set_option linter.unusedVariables false
set_option linter.unusedSimpArgs false
set_option maxHeartbeats 8000000
set_option maxRecDepth 100000
namespace Go.Proofs.YtnmoajaelmimnaaGreatDoor
open Go.Proofs.Tryz (prog)
section
open Go.RowKit
attribute [local go_sem ↓] Go.wp_at_zero Go.wp_at_succ
section
variable {P:Program}
theorem z2e(w:World)(dT sT ty elem:TypeId)(i:TypeInfo)(k b o dLen dCap:Nat)(a:Addr)(sLen sCap m:Nat)(cs:List Value)
  (hu:P.underlying dT=some (.slice elem)) (hi:P.info? elem=some i) (hs:i.size=k) (hm:Nat.min sLen dLen=m) (hn:cs.length=m * k)
  (hsrc:∀j v,cs[j]? = some v→w.cell? (a.add j)=some v) (hc:∀j,j < cs.length→(w.cell? ⟨b,o+j,none⟩).isSome=true∧w.frozen? ⟨b,o+j,none⟩=false) (h1:∀v∈cs,v.oneCell'=true):
  (Builtin.copy_ #[dT,sT] ty #[.slice (some ⟨b,o,none⟩) dLen dCap,.slice (some a) sLen sCap]).run P w=.ok (goInt m) (w.setCells b o cs):=by
 have f:=run_loadCells_list (P:=P) w a cs hsrc;have d:=run_storeCells_cells (P:=P) b o cs 0 w (by simpa using fun j e=>(hc j e).1) (by simpa using fun j e=>(hc j e).2) h1;rw[hn] at f;simp[Builtin.copy_,run_underlying hu,Builtin.lenOf,Builtin.firstCells,sizeOf,typeInfo,hi,hs,hm,f,d]
end
section
variable {w:World} {g base e k n cap i:Nat} {xs vs:List Value}
def z15(xs vs:List Value)(o:Nat):List Value:=xs.take o++vs++xs.drop o
theorem q3h(h:w.ownsRow base e k (.slice (some ⟨g,0,none⟩) n cap) n xs)(hi:i≤n)(hr:n+1≤cap)(hv:vs.length=k):
  ∃cur0 cur,Whole w g e cur0∧cur0.length=cap * k∧Whole (w.setCells g ((i+1) * k) (xs.drop (i * k))) g e cur∧cur.length=cap * k ∧
   ((w.setCells g ((i+1) * k) (xs.drop (i * k))).setCells g (i * k) vs).ownsRow base e k (.slice (some ⟨g,0,none⟩) (n+1) cap) (n+1) (z15 xs vs (i * k)):=by
 obtain⟨cur,p,d,t,u,G,z,a⟩:=z3j h;have x:i * k≤n * k:=Yk _ hi;have r:(i+1) * k=i * k+k:=Vl i k;have E:(n+1) * k=n * k+k:=Vl n k;have D:(n+1) * k≤cap * k:=Yk _ hr;have b:(xs.drop (i * k)).length=n * k - i * k:=by rw[Xr,a]
 have m:=z14 (xs.drop (i * k)) ((i+1) * k) w cur p (by rw[b,d,r];omega)
 have f:(cur.take ((i+1) * k)++xs.drop (i * k)++cur.drop ((i+1) * k+(xs.drop (i * k)).length)).length=cap * k:=by
  simp only[Xk,Xp,Xr,d] at b ⊢;omega
 refine⟨cur,_,p,d,m,f,?_⟩;have y:=z14 vs (i * k) _ _ m (by rw[f,hv];omega)
 have B:∀c1:List Value,c1.length=cap * k→(c1.take (i * k)++vs++c1.drop (i * k+vs.length)).length=cap * k:=by
  intro c1 j;simp only[Xk,Xp,Xr,hv,j];omega
 have:=z2j (cap:=cap) (k:=k) (n:=n+1) (base:=base) y (B _ f) u hr z;have F:(cur.take ((i+1) * k)).length=(i+1) * k:=by rw[Xp,d];omega
 have A:(cur.take ((i+1) * k)++xs.drop (i * k)++cur.drop ((i+1) * k+(xs.drop (i * k)).length)).take (i * k)=xs.take (i * k):=by
  rw[Yi,Yz (by omega),Vm,Up (by omega),←t,Vm,Up (by omega)]
 have C:(cur.take ((i+1) * k)++xs.drop (i * k)++cur.drop ((i+1) * k+(xs.drop (i * k)).length)).drop (i * k+vs.length)=xs.drop (i * k)++cur.drop ((i+1) * k+(xs.drop (i * k)).length):=by
  rw[hv,←r,Yi,List.drop_append_of_le_length (by omega),Ui (by omega),Vq]
 have s:((cur.take ((i+1) * k)++xs.drop (i * k)++cur.drop ((i+1) * k+(xs.drop (i * k)).length)).take (i * k)++vs++(cur.take ((i+1) * k)++xs.drop (i * k)++cur.drop ((i+1) * k+(xs.drop (i * k)).length)).drop (i * k+vs.length)).take ((n+1) * k)=z15 xs vs (i * k):=by
  rw[A,C,←Yi];unfold z15
  have l:(xs.take (i * k)++vs++xs.drop (i * k)).length=(n+1) * k:=by
   simp only[Xk,Xp,Xr,a,hv];omega
  rw[Yz (by omega),Xw (by omega)]
 rw[s] at this;exact this
theorem q3g{G:Nat}{zs:List Value}(hx:xs.length=n * k)(hi:i≤n)(hv:vs.length=k)(hG:n+1≤G)(hm:G≤maxLen)(hb:base≤g)(hw:Whole w g e (xs.take (i * k)++zs))(hz:(xs.take (i * k)++zs).length=G * k):
  ∃cur,Whole (w.setCells g (i * k) vs) g e cur∧cur.length=G * k ∧
   ((w.setCells g (i * k) vs).setCells g ((i+1) * k) (xs.drop (i * k))).ownsRow base e k (.slice (some ⟨g,0,none⟩) (n+1) G) (n+1) (z15 xs vs (i * k)):=by
 have s:i * k≤n * k:=Yk _ hi;have u:(i+1) * k=i * k+k:=Vl i k;have x:(n+1) * k=n * k+k:=Vl n k;have t:(n+1) * k≤G * k:=Yk _ hG;have a:(xs.drop (i * k)).length=n * k - i * k:=by rw[Xr,hx]
 have b:(xs.take (i * k)).length=i * k:=by rw[Xp];omega
 have h:=z14 vs (i * k) w _ hw (by rw[hz,hv];omega)
 have m:(xs.take (i * k)++zs).take (i * k)=xs.take (i * k):=by
  rw[Yz (by omega),Xw (by omega)]
 rw[m] at h
 have d:(xs.take (i * k)++vs++(xs.take (i * k)++zs).drop (i * k+vs.length)).length=G * k:=by
  rw[Xk,Xr,hz,Xk,b,hv];omega
 refine⟨_,h,d,?_⟩;have l:=z14 (xs.drop (i * k)) ((i+1) * k) _ _ h (by rw[d,a];omega)
 have r:(xs.take (i * k)++vs++(xs.take (i * k)++zs).drop (i * k+vs.length)).take ((i+1) * k)=xs.take (i * k)++vs:=by
  rw[Yz (by rw[Xk,b,hv];omega),Xw (by rw[Xk,b,hv];omega)]
 rw[r] at l
 have p:∀c1:List Value,c1.length=G * k→(xs.take (i * k)++vs++xs.drop (i * k)++c1.drop ((i+1) * k+(xs.drop (i * k)).length)).length=G * k:=by
  intro c1 f;simp only[Xk,Xp,Xr,hv,f,hx];omega
 have:=z2j (cap:=G) (k:=k) (n:=n+1) (base:=base) l (p _ d) hb hG hm
 have j:(xs.take (i * k)++vs++xs.drop (i * k)).length=(n+1) * k:=by
  simp only[Xk,Xp,Xr,hx,hv];omega
 rw[Yz (by omega),Xw (by omega)] at this;exact this
end
theorem z5m(b:Nat):∀(vs) (o:Nat) (w:World),w.drew.setCells b o vs=(w.setCells b o vs).drew
 | [],_,_=>rfl
 | v :: r,o,w=>by
  rw[World.setCells,World.setCells];exact z5m b r (o+1) (w.setCell ⟨b,o,none⟩ v)
theorem z7l{w w1 w2:World}{r:Option Nat}{g:Nat}(h:w.grownBy w1 r)(h2:w1.grownBy w2 (some g))(hg:w.heap.size≤g):w.grownBy w2 r:=
 ⟨h2.os.trans h.os,h2.tape.trans h.tape,h2.output.trans h.output,Xd h.size h2.size,fun j hj hne=>(h2.block j (Yx hj h.size) (by intro e;injection e with e;omega)).trans (h.block j hj hne)⟩
theorem zmp(w:World)(o:Obj)(r:Option Nat):w.grownBy (w.alloc o) r:=
 ⟨rfl,rfl,rfl,by show _≤(w.heap.push o).size;simp,fun j hj _=>Below.heap_alloc w o j hj⟩
section
variable {P:Program}
theorem zh0(w:World){o:Oper}{a:Act}{K:Act→World→Prop}{Q:Exit→Act→World→Prop}(d s:Operand)(t t':TypeId)
  (ho:o.op=.call { callee:=.builtin .copy,args:=#[d,s],argTypes:=#[t,t'] }) (v u:Value) (hd:a.eval d=v) (hs:a.eval s=u) {v':Value} {w':World}
  (hr:(Builtin.copy_ #[t,t'] o.type #[v,u]).run P w=.ok v' w') (h:K (a.put o.dst v') w'):o.wp P a w K Q:=by
 unfold Oper.wp execOp;simp only[ho,resolve,invoke,builtin,Sem.run_bind,Sem.run_pure,Result.andThen_ok,Jz,Yv,Vr,hd,hs,hr];exact h
theorem z3b(w:World){ops:Array Oper}{rest:List Oper}{o:Oper}{a:Act}{Q:Exit→Act→World→Prop}(hgd:o.guard=none)(d s:Operand)(t t':TypeId)
  (ho:o.op=.call { callee:=.builtin .copy,args:=#[d,s],argTypes:=#[t,t'] }) (v u:Value) (hd:a.eval d=v) (hs:a.eval s=u) {v':Value} {w':World}
  (hr:(Builtin.copy_ #[t,t'] o.type #[v,u]).run P w=.ok v' w') (h:wpList P ops Q rest (a.put o.dst v') w'):wpList P ops Q (o :: rest) a w:=
 wpList_plain hgd fun _ hK=>zh0 w d s t t' ho v u hd hs hr (hK _ _ h)
theorem z49{ops:Array Oper}{o:Oper}{a:Act}{w:World}{K:Act→World→Prop}{Q:Exit→Act→World→Prop}{E:Prop}(hgd:o.guard=none)(d s:Operand)(t t':TypeId)
  (ho:o.op=.call { callee:=.builtin .copy,args:=#[d,s],argTypes:=#[t,t'] }) (v u:Value) (hd:a.eval d=v) (hs:a.eval s=u) {v':Value} {w':World}
  (hr:(Builtin.copy_ #[t,t'] o.type #[v,u]).run P w=.ok v' w') (h:K (a.put o.dst v') w'):
  if Region.wanted o (yielded ops a.tmps)=true then Oper.wp P o a w K Q else E:=by
 have b:Region.wanted o (yielded ops a.tmps)=true:=by simp[Region.wanted,hgd]
 rw[Xf b];exact zh0 w d s t t' ho v u hd hs hr h
end
section
variable {P:Program} (w:World)
theorem zq6{t t2 e ty:TypeId}(ht:P.underlying t=some (.slice e))(ht2:P.underlying t2=some (.slice e))(v x):(Builtin.append_ #[t,t2] ty #[v,x]).run P w=(Builtin.append_ #[t,t] ty #[v,x]).run P w:=by
 cases v <;> simp[Builtin.append_,run_underlying ht,run_underlying ht2]
theorem zir{o:Oper}{a:Act}{K:Act→World→Prop}{Q:Exit→Act→World→Prop}(s x:Operand)(t t2:TypeId)
  (ho:o.op=.call { callee:=.builtin .append,args:=#[s,x],argTypes:=#[t,t2] })
  (base:Nat) (e:TypeId) (i:TypeInfo) (z:Value) (size bytes:Nat) (ht:P.underlying t=some (.slice e)) (ht2:P.underlying t2=some (.slice e)) (hi:P.info? e=some i) (hz:i.zero=some z)
  (hsize:i.size=size) (hby:i.bytes=bytes) (hzs:z.cells.size=size) (hsz:0 < size)
  (v:Value) (n:Nat) (xs:List Value) (hs:a.eval s=v) (hown:w.ownsRow base e size v n xs)
  (B:Nat) (vx:Value) (m:Nat) (news:List Value) (hx:a.eval x=vx) (hr:Sl w B size vx m news) (h1:∀u∈news,u.oneCell'=true)
  (h63:n+m≤maxLen) (hbytes:(n+m) * bytes≤140737488355328) (hbase:base≤w.heap.size)
  (h:∀v' w',w'.ownsRow base e size v' (n+m) (xs++news)→w.grownBy w' v.ownBlock→(v'.ownBlock=v.ownBlock∨v'.ownBlock=some w.heap.size)→K (a.put o.dst v') w'):o.wp P a w K Q:=by
 obtain⟨v',w',b,d,h3,h4⟩:=zbe (P:=P) w base t o.type e i z size bytes ht hi hz hsize hby hzs hsz v n xs hown B vx m news hr h1 h63 hbytes hbase;rw[←zq6 w ht ht2] at b;unfold Oper.wp execOp;simp only[ho,resolve,invoke,builtin,Sem.run_bind,Sem.run_pure,Result.andThen_ok,Jz,Yv,Vr,hs,hx,b];exact h v' w' d h3 h4
theorem z7f{ops:Array Oper}{rest:List Oper}{o:Oper}{a:Act}{Q:Exit→Act→World→Prop}(hgd:o.guard=none)(s x:Operand)(t t2:TypeId)
  (ho:o.op=.call { callee:=.builtin .append,args:=#[s,x],argTypes:=#[t,t2] })
  (base:Nat) (e:TypeId) (i:TypeInfo) (z:Value) (size bytes:Nat) (ht:P.underlying t=some (.slice e)) (ht2:P.underlying t2=some (.slice e)) (hi:P.info? e=some i) (hz:i.zero=some z)
  (hsize:i.size=size) (hby:i.bytes=bytes) (hzs:z.cells.size=size) (hsz:0 < size)
  (v:Value) (n:Nat) (xs:List Value) (hs:a.eval s=v) (hown:w.ownsRow base e size v n xs)
  (B:Nat) (vx:Value) (m:Nat) (news:List Value) (hx:a.eval x=vx) (hr:Sl w B size vx m news) (h1:∀u∈news,u.oneCell'=true)
  (h63:n+m≤maxLen) (hbytes:(n+m) * bytes≤140737488355328) (hbase:base≤w.heap.size)
  (h:∀v' w',w'.ownsRow base e size v' (n+m) (xs++news)→w.grownBy w' v.ownBlock→(v'.ownBlock=v.ownBlock∨v'.ownBlock=some w.heap.size)→wpList P ops Q rest (a.put o.dst v') w'):wpList P ops Q (o :: rest) a w:=
 wpList_plain hgd fun _ hK=>zir w s x t t2 ho base e i z size bytes ht ht2 hi hz hsize hby hzs hsz v n xs hs hown B vx m news hx hr h1 h63 hbytes hbase fun v' w' h2 h3 h4=>hK _ _ (h v' w' h2 h3 h4)
end
attribute [local go_sem] z1g
theorem caught(b1 b2:Nat)(v1 v2)(w:World)(h1:w.cell? ⟨b1,0,none⟩=some v1)(h2:w.cell? ⟨b2,0,none⟩=some v2)(hb:b1 < w.heap.size)(hb2:b2 < w.heap.size)(hne:b1≠b2)(z1:w.frozen? ⟨b1,0,none⟩=false)(z2:w.frozen? ⟨b2,0,none⟩=false):
  CallsD prog 342 #[.pointer (some ⟨b1,0,none⟩),.pointer (some ⟨b2,0,none⟩)] (.panicking [{ v:=zfn,recovered:=false }]) w fun e u' w'=>
   e=.returned (.tuple #[])∧u'=.panicking [{ v:=zfn,recovered:=true }]∧w'=((w.setCell ⟨b1,0,none⟩ (.slice none 0 0)).setCell ⟨b2,0,none⟩ (.bool false)).alloc (.cells #[] 323):=by
 have b:∀W:World,(Instr.typeAssert (.iface 323 (.agg #[])) 20 323 true).run prog W=.ok (.tuple #[.agg #[],.bool true]) W:=fun _=>by kernel_rfl
 refine callsD_of_wpS Tryz.func342 rfl fun d f a=>?_;unfold zfn at a ⊢;apply wpS_seq;apply wpS_region;simp[wpOpsS,go_sem,recoverD,a,Tryz.ntmps342,Exit.thenS];apply wpS_seq;apply wpS_region;simp[wpOpsS,go_sem,Exit.thenS,Array.replicate];refine wpS_cond (t:=true) (by simp[Act.eval]) ?_;simp only[if_true];refine wpS_of_wp ?_;go_wp2;simp[bodyPostS,results,Tryz.results342]
theorem idle(b1 b2:Nat)(w:World):
  CallsD prog 342 #[.pointer (some ⟨b1,0,none⟩),.pointer (some ⟨b2,0,none⟩)] .returning w fun e u' w'=>e=.returned (.tuple #[])∧u'=.returning∧w'=w:=by
 refine callsD_of_wpS Tryz.func342 rfl fun a d b=>?_;apply wpS_seq;apply wpS_region;simp[wpOpsS,go_sem,recoverD,b,Tryz.ntmps342,Exit.thenS];apply wpS_seq;apply wpS_region;simp[wpOpsS,go_sem,Exit.thenS,Array.replicate];refine wpS_cond (t:=false) (by simp[Act.eval]) ?_;simp only[Bool.false_eq_true,if_false];refine wpS_of_wp (wp_skip ?_);cases a
 simp_all [bodyPostS,results,Tryz.results342]
theorem Tryz.info318:(prog.info? 318).map (fun i=>(i.zero,i.size,i.bytes))=some (some (.agg #[.bool false,.nilFunc]),2,16):=by kernel_rfl
def cellsOf(w:World)(L B:Nat):List Part→List Value→Prop
 | [],xs=>xs=[]
 | P :: ps,xs=>∃a f r,xs=a :: f :: r∧z5v w L B P a f∧cellsOf w L B ps r
structure PtL(w wr:World)(p:YY)(k n:Nat)(v:Value)(ps:List Part)(xs:List Value):Prop where
 st:PSt wr (w.heap.size+1+1) p k
 c0:Whole wr w.heap.size 292 [v]
 c1:Whole wr (w.heap.size+1) 4 [.bool false]
 own:wr.ownsRow (w.heap.size+3) 318 2 v n xs
 cells:cellsOf wr (w.heap.size+3) wr.heap.size ps xs
 fr:Fr [] w wr
 sz:w.heap.size+3≤wr.heap.size
def zaf(w:World)(p:YY)(e:Ending)(w':World):Prop:=
 match z2k p 0 with
 | some l=>∃v n xs,e=.returned (.tuple #[v,.bool true])∧w'.ownsRow (w.heap.size+3) 318 2 v n xs∧cellsOf w' (w.heap.size+3) w'.heap.size (l.map (·.2)) xs∧n=l.length∧Fr [] w w'
 | none=>e=.returned (.tuple #[.slice none 0 0,.bool false])∧Fr [] w w'
theorem cellsOf.keep{w w':World}{L L' B B':Nat}(hb:∀(g:Nat) (t:TypeId) (cs:Array Value),L≤g→g < B→t≠318→w.heap[g]? = some (.cells cs t (0,0))→w'.heap[g]? = w.heap[g]?)(hL:L'≤L)(hB:B≤B'):∀ {ps:List Part} {xs:List Value},cellsOf w L B ps xs→cellsOf w' L' B' ps xs
 | [],_,h=>h
 | P :: ps,xs,h=>by
  obtain⟨a,f,r,e,h1,h2⟩:=h;exact⟨a,f,r,e,h1.keep hb hL hB,cellsOf.keep hb hL hB h2⟩
theorem cellsOf.snoc{w:World}{L B:Nat}{P:Part}{a f:Value}(hP:z5v w L B P a f):∀ {ps:List Part} {xs:List Value},cellsOf w L B ps xs→cellsOf w L B (ps++[P]) (xs++[a,f])
 | [],xs,h=>by
  have:xs=[]:=h;subst this;exact⟨a,f,[],rfl,hP,rfl⟩
 | Q :: ps,xs,h=>by
  obtain⟨a',f',r,e,h1,h2⟩:=h;subst e;exact⟨a',f',r++[a,f],rfl,h1,cellsOf.snoc hP h2⟩
theorem zcp{w:World}{base:Nat}{e:TypeId}{size n:Nat}{v:Value}{xs:List Value}(h:w.ownsRow base e size v n xs):∃A c,v=.slice A n c:=by
 rcases h.2 with⟨rfl,rfl⟩|⟨g,cap,cur,rfl,_⟩
 ·exact⟨_,_,rfl⟩
 ·exact⟨_,_,rfl⟩
theorem zc3{w w':World}{base:Nat}{e:TypeId}{size n:Nat}{v:Value}{xs:List Value}{S:List Nat}(h:w.ownsRow base e size v n xs)(hf:Fr S w w')(hS:∀g,v.ownBlock=some g→g∉S):w'.ownsRow base e size v n xs:=by
 refine⟨h.1,?_⟩;rcases h.2 with hn|⟨g,cap,cur,rfl,hb,hgg,rest⟩
 ·exact .inl hn
 ·exact .inr ⟨g,cap,cur,rfl,hb,(hf.block g (Uv.1 hgg).1 (hS g rfl)).trans hgg,rest⟩
theorem zw8(p:YY)(w:World)(hs:p.size≤60):
  Calls prog 331 #[.string p] w (zaf w p):=by
 have ao:∀(fn:Fn) (first cap:Array Value) (w:World),(Instr.makeFunc fn first cap).run prog w=.ok (.func fn first cap) w:=fun _ _ _ _=>rfl;obtain⟨i0,hi,hz0,hz1,hz2⟩:=info_parts Tryz.info318
 have Y:PtL w (((w.alloc (.cells #[.slice none 0 0] 292)).alloc (.cells #[.bool false] 4)).alloc (.cells #[.string p,.int .i64 0] 327)) p 0 0 (.slice none 0 0) [] []:=
  ⟨show Whole _ _ _ _ by simpa using Whole.new ((w.alloc (.cells #[.slice none 0 0] 292)).alloc (.cells #[.bool false] 4)) 327 [.string p,.int .i64 0],
   ((Whole.new w 292 [.slice none 0 0]).alloc _).alloc _,by simpa using (Whole.new (w.alloc (.cells #[.slice none 0 0] 292)) 4 [.bool false]).alloc _,
   World.ownsRow_nil _ _ _ _,rfl,(((Fr.refl _ w).alloc _).alloc _).alloc _,by simp⟩
 have V:=hid Y;have HI:=hid hi;have HZ:=hid hz0;have ai:=hid hz1;have ac:=hid hz2;clear Y hi hz0 hz1 hz2
 go_enter_defers Tryz.func331,Tryz.ntmps331
 go_wp2;go_loopg [5] p.size (fun g _ wr=>∃(k n:Nat) (A:YV) (c:Nat) (O:List (Nat×Part)) (xs:List Value),g=p.size - k∧k≤p.size∧n≤k∧n=O.length∧PtL w wr p k n (.slice A n c) (O.map (·.2)) xs∧z2k p 0=(z2k p k).map (O++·))
 case atStart=>exact⟨0,0,_,_,[],[],rfl,Xt _,Xb _,rfl,V.o,by simp⟩
 case round=>
  clear V;obtain⟨k,n,A,c,O,xs,rfl,hk,an,hn,y,hR⟩:=hrel;have h:=hid y;have HR:=hid hR;have HN:=hid hn;obtain⟨c0,c1,f0,f1,_⟩:=y.st.facts;have q0:=y.c0.cell 0;have z0:=y.c0.frozen 0;have q1:=y.c1.cell 0;have z1:=y.c1.frozen 0;simp at q0 q1;have l0:=y.c0.lt;have l1:=y.c1.lt;clear y hR hn;by_cases hlt:k < p.size
  ·go_wp2_with fail;refine(q0d p (w.heap.size+1+1) k _ (by omega) h.o.st hlt).mono ?_;intro e R d;unfold z4c at d;cases hpa:z3k p k with
   | none=>
    rw[hpa] at d;obtain⟨rfl,B⟩:=d;have a0:z2k p 0=none:=by rw[HR.o,z6v,Xf hlt,hpa];rfl
    have ab:=hid a0;clear a0 hpa;have z:=h.o.c0.fr B (by simp;omega);have s:=h.o.c1.fr B (by simp);have a9:=hid ((h.o.fr.step B (fun x K=>.inr (by simp at K;omega))));have r0:=z.cell 0;have r1:=s.cell 0;have y0:=z.frozen 0;have y1:=s.frozen 0;simp at r0 r1;have U:=z.lt;have a4:=s.lt;have E0:=hid z;have E1:=hid s;clear z s B;go_wp2;refine leaves_cons (f:=342) (args:=#[.pointer (some ⟨w.heap.size,0,none⟩),.pointer (some ⟨w.heap.size+1,0,none⟩)]) (by simp) (by simp[go_sem]) ?_;refine(caught _ _ _ _ _ r0 r1 U a4 (by simp) y0 y1).mono ?_;rintro e u' ag ⟨rfl,rfl,rfl⟩;have s0:=(((E0.o.set_ 0 (.slice none 0 0)).far (p:=⟨w.heap.size+1,0,none⟩) (by simp) (.bool false)).alloc (.cells #[] 323)).cell 0;have s1:=(((E1.o.far (p:=⟨w.heap.size,0,none⟩) (by simp) (.slice none 0 0)).set_ 0 (.bool false)).alloc (.cells #[] 323)).cell 0;simp at s0 s1;simp[Leaves,settle,results,Tryz.results331,go_sem,s0,s1];unfold zaf;rw[ab.o];exact⟨rfl,((a9.o.setCell (.inr (by simp)) _).setCell (.inr (by simp)) _).alloc _⟩
   | some x=>
    rw[hpa] at d;obtain⟨a,f,rfl,M,a2,B⟩:=d;have K:=zb5 hpa;have E:=M.one;have am:∀(W:World) (N:Addr) (m:Mode),(store N a m).run prog W=stored prog W N a m:=fun W N m=>run_store _ _ _ _ _ E.1;have ap:∀(W:World) (N:Addr) (m:Mode),(store N f m).run prog W=stored prog W N f m:=fun W N m=>run_store _ _ _ _ _ E.2;have z:=h.o.c0.fr B (by simp;omega);have s:=h.o.c1.fr B (by simp);have r0:=z.cell 0;have r1:=s.cell 0;have y0:=z.frozen 0;have y1:=s.frozen 0;simp at r0 r1;have U:=z.lt;have a4:=s.lt
    have C:=((zc3 h.o.own B (fun g D=>by
     have:=h.o.own.lt g D;simp;omega)).alloc (.cells #[a,f] 318)).alloc (.cells #[a,f] 318)
    have ak:=B.size;have af:=hid M;have ae:=hid a2;have aj:=hid hpa;have HF:=hid B;have a6:=hid E;have E0:=hid z;have E1:=hid s;clear M a2 hpa B E z s;go_wp2_with (at_builtin;refine wpList_append_own _ rfl (.tmp 19) (.tmp 21) 292 rfl (w.heap.size+3) 318 i0 (.agg #[.bool false,.nilFunc]) 2 16 Tryz.underlying292 HI.o HZ.o ai.o ac.o rfl (by decide) (.slice A n c) n xs rfl C ⟨R.heap.size+1,0,none⟩ 1 1 [a,f] rfl rfl ?c1 ?c2 ?c3 ?c4 ?c5 ?_)
    case c1=>
     intro j u X
     match j,X with
     | 0,X=>simpa[Addr.add] using X
     | 1,X=>simpa[Addr.add] using X
    case c2=>
     intro u hu;simp at hu;rcases hu with rfl|rfl
     ·exact a6.o.1
     ·exact a6.o.2
    case c3=>simp[maxLen];omega
    case c4=>omega
    case c5=>simp;have:=h.o.sz;omega
    intro v' w2 l b _;obtain⟨A',c',ah⟩:=zcp l
    have S:(Value.slice A n c).ownBlock≠some w.heap.size:=fun e=>by
     have:=h.o.own.lt _ e;omega
    have J:(Value.slice A n c).ownBlock≠some (w.heap.size+1):=fun e=>by
     have:=h.o.own.lt _ e;omega
    have I:(Value.slice A n c).ownBlock≠some (w.heap.size+1+1):=fun e=>by
     have:=h.o.own.lt _ e;omega
    have g0:=((E0.o.alloc (.cells #[a,f] 318)).alloc (.cells #[a,f] 318)).grown b (Ne.symm S);have g1:=((E1.o.alloc (.cells #[a,f] 318)).alloc (.cells #[a,f] 318)).grown b (Ne.symm J);have g2:PSt w2 (w.heap.size+1+1) p x.2:=Whole.grown (Whole.alloc (Whole.alloc ae.o _) _) b (Ne.symm I);have a7:=hid ((((h.o.fr.step HF.o (fun x K=>.inr (by simp at K;omega))).alloc (.cells #[a,f] 318)).alloc (.cells #[a,f] 318)).grown b (fun k hk=>.inr (by have:=h.o.own.lt k hk;omega)));have a3:=hid l;have HG:=hid b;have m0:=g0.cell 0;have al:=g0.frozen 0;simp at m0;have G0:=hid g0;have G1:=hid g1;have G2:=hid g2;clear l b S J I g0 g1 g2 C;subst ah;go_wp2;go_roundg (p.size - x.2)
    case measure=>omega
    case rel=>
     have H:=a3.o;have hG:=HG.o;have a8:=h.o.sz;have a5:=hG.size;simp at a5;have a1:Fr [w.heap.size] w2 (w2.setCell ⟨w.heap.size,0,none⟩ (.slice A' (n+1) c')):=(Fr.refl _ _).setCell (.inl (by simp)) _
     have F:∀(g:Nat) (t:TypeId) (Q:Array Value),w.heap.size+3≤g→g < R.heap.size→t≠318→R.heap[g]? = some (.cells Q t (0,0))→(w2.setCell ⟨w.heap.size,0,none⟩ (.slice A' (n+1) c')).heap[g]? = R.heap[g]? := by
      intro g t Q D r T Z;rw[Below.heap_setCell _ _ _ _ (by simp;omega)]
      have aa:((R.alloc (.cells #[a,f] 318)).alloc (.cells #[a,f] 318)).heap[g]? = R.heap[g]? := by
       rw[Below.heap_alloc _ _ _ (by simp;omega),Below.heap_alloc _ _ _ r]
      rw[hG.block g (by simp;omega) ?_,aa];intro e;rcases h.o.own.2 with⟨e2,_⟩|⟨g',cap,cur,e2,_,hcur,_⟩
      ·cases e2;cases e
      ·cases e2;simp[Value.ownBlock] at e;subst e;have:=(HF.o.block g (by have:=h.o.own.lt g rfl;omega) (by simp;omega));rw[Z,hcur] at this;injection this with this
       injection this with _ h2
       exact T h2
     refine⟨x.2,n+1,A',c',O++[(k,x.1)],xs++[a,f],rfl,K.2,by omega,by simp[HN.o],⟨Whole.far G2.o (by simp;omega) _,G0.o.set_ 0 _,G1.o.far (by simp) _,zc3 H a1 (fun g D=>by have:=H.lt g D;simp;omega),?_,a7.o.setCell (.inr (by simp)) _,?_⟩,?_⟩
     ·rw[Vu];refine cellsOf.snoc (P:=x.1) (af.o.keep (fun g t Q D r T Z=>F g t Q (by omega) r T Z) a8 ?_) ?_
      ·simp[World.setCell];omega
      ·refine h.o.cells.keep (fun g t Q D r T Z=>?_) (Xb _) ?_
       ·have s:=HF.o.block g r (by simp;omega);rw[←s];exact F g t Q D (by omega) T (s.trans Z)
       ·simp[World.setCell];omega
     ·simp[World.setCell];omega
     ·rw[HR.o,z6v,Xf hlt,aj.o];simp;rfl
  ·have G:z2k p 0=some O:=by rw[HR.o,z6v,Xc hlt];simp
   have HY:=hid G;clear G;go_wp2;refine leaves_cons (f:=342) (args:=#[.pointer (some ⟨w.heap.size,0,none⟩),.pointer (some ⟨w.heap.size+1,0,none⟩)]) (by simp) (by simp[go_sem]) ?_;refine(idle _ _ _).mono ?_;rintro e u' ag ⟨rfl,rfl,rfl⟩;simp[Leaves,settle,results,Tryz.results331,go_sem,q0,q1];unfold zaf;rw[HY.o];have y:=h.o
   have L:Fr [w.heap.size,w.heap.size+1] wr ((wr.setCell ⟨w.heap.size,0,none⟩ (.slice A n c)).setCell ⟨w.heap.size+1,0,none⟩ (.bool true)):=
    ((Fr.refl _ _).setCell (.inl (by simp)) _).setCell (.inl (by simp)) _
   refine⟨_,n,xs,rfl,zc3 y.own L (fun g D=>by have:=y.own.lt g D;simp;omega),y.cells.keep (fun g _ _ D r _ _=>L.block g r (by simp;omega)) (Xb _) (by simp[World.setCell]),HN.o,?_⟩
   ·exact y.fr.step L (fun x K=>.inr (by simp at K;omega))
attribute [local go_sem] z1g
theorem zdr:(prog.info? 196).map (fun i=>(i.zero,i.size,i.bytes))=some (some (.agg #[.pointer none,.slice none 0 0]),2,32):=by kernel_rfl
theorem zy2:(prog.info? 5).map (fun i=>(i.zero,i.size,i.bytes))=some (some (.int .u8 0),1,1):=by kernel_rfl
section
variable {P:Program} (w:World)
theorem ziz(base:Nat)(t u ty e:TypeId)(i:TypeInfo)(ht:P.underlying t=some (.slice e))(hu:P.underlying u=some .string)(hi:P.info? e=some i)(hz:i.zero=some (.int .u8 0))
  (hsize:i.size=1) (hby:i.bytes=1) (v:Value) (n:Nat) (xs:List Value) (hown:w.ownsRow base e 1 v n xs) (s:YY)
  (h63:n+s.size≤maxLen) (hbytes:n+s.size≤140737488355328) {v':Value} {w':World} (hr:(Builtin.append_ #[t,u] ty #[v,.string s]).run P w=.ok v' w'):
  v'.ownBlock=v.ownBlock∨v'.ownBlock=some w.heap.size:=by
 have a:n+s.size≤9223372036854775807:=by simp only[maxLen] at h63;omega
 have b:xs.length=n:=by simpa using hown.1
 rcases hown.2 with⟨rfl,rfl⟩|⟨g,cap,cur,rfl,hbg,hg,hnc,hcm,hcs,htake⟩
 ·by_cases hm:s.size=0
  ·have d:=Lib.run_firstCells_string (P:=P) w 1 s;rw[hm] at d;simp[Builtin.append_,run_underlying ht,run_underlying hu,sizeOf,typeInfo,hi,hsize,Builtin.lenOf,hm,d] at hr;rw[←hr.1];exact .inl rfl
  ·rw[run_append_nil_string (P:=P) w t u ty e i (.int .u8 0) ht hu hi hz s (by omega) (by omega) (by rw[hby];omega)] at hr;cases hr;exact .inr rfl
 ·by_cases hroom:n+s.size≤cap
  ·have f:cur.size=cap:=by simpa using hcs
   rw[Lib.run_append_room_string (P:=P) w t u ty e i ht hu hi hsize g n cap cur hg s hroom (by omega)] at hr;cases hr;exact .inl rfl
  ·rw[Lib.run_append_grow_string (P:=P) w t u ty e i (.int .u8 0) ht hu hi hz ⟨g,0,none⟩ n cap xs (by rw[hsize];simpa using b) (hown.cells (g:=g) rfl) s (by omega) (by omega) (by rw[hby];exact growslice_fits (by omega) (by omega))] at hr;cases hr;exact .inr rfl
theorem zcf{ops:Array Oper}{rest:List Oper}{o:Oper}{a:Act}{Q:Exit→Act→World→Prop}(hgd:o.guard=none)(sl x:Operand)(t u:TypeId)
  (ho:o.op=.call { callee:=.builtin .append,args:=#[sl,x],argTypes:=#[t,u] })
  (base:Nat) (e:TypeId) (i:TypeInfo) (ht:P.underlying t=some (.slice e)) (hu:P.underlying u=some .string) (hi:P.info? e=some i) (hz:i.zero=some (.int .u8 0))
  (hsize:i.size=1) (hby:i.bytes=1)
  (v:Value) (n:Nat) (xs:List Value) (hs:a.eval sl=v) (hown:w.ownsRow base e 1 v n xs) (s:YY) (hx:a.eval x=.string s)
  (h63:n+s.size≤maxLen) (hbytes:n+s.size≤140737488355328) (hbase:base≤w.heap.size)
  (h:∀v' w',w'.ownsRow base e 1 v' (n+s.size) (xs++Lib.strCells s)→w.grownBy w' v.ownBlock→(v'.ownBlock=v.ownBlock∨v'.ownBlock=some w.heap.size)→wpList P ops Q rest (a.put o.dst v') w'):wpList P ops Q (o :: rest) a w:=by
 refine wpList_plain hgd fun K b=>?_;obtain⟨v',w',hr,f,h3,h4⟩:=Lib.run_append_own_string (P:=P) w base t u o.type e i ht hu hi hz hsize hby v n xs hown s h63 hbytes hbase;have d:=ziz w base t u o.type e i ht hu hi hz hsize hby v n xs hown s h63 hbytes hr;unfold Oper.wp execOp;simp only[ho,resolve,invoke,builtin,Sem.run_bind,Sem.run_pure,Result.andThen_ok,Jz,Yv,Vr,hs,hx,hr];exact b _ _ (h v' w' f h3 d)
end
theorem zyy{S:List Nat}{a b:World}(h:Fr S a b){p:Addr}(hp:p.block∈S)(n:Nat):Fr S a (b.freeze p n):=by
 unfold World.freeze;split
 ·exact h
 ·refine⟨h.os,h.tape,h.output,by simpa using h.size,fun i hi d=>?_⟩;rw[←h.block i hi d];have:p.block≠i:=fun e=>d (e ▸ hp);simp[Jg,this]
structure z5d(T:TypeId)(g off base:Nat)(own:Option Nat)(cs:List Value)(l:List UInt8)(w:World):Prop where
 whole:Whole w g T cs
 addr:cs[off]? = some (.pointer none)∨cs[off]? = some (.pointer (some ⟨g,off,none⟩))
 buf:∃v,cs[off+1]? = some v∧w.ownsRow base 5 1 v l.length (Lib.byteCells l)∧v.ownBlock=own
 base:base≤g
 ne:T≠5
 lies:liesAt prog prog.depth T (cs.length / prog.cellsOf T) off 196 1=true
theorem zld{cs:List Value}{i:Nat}{v:Value}(h:cs[i]? = some v):cs.set i v=cs:=by
 obtain⟨a,e⟩:=Xe.1 h;rw[←e];exact List.set_getElem_self a
theorem zft(T g off:Nat)(cs)(w)(hw:Whole w g T cs)(h0:cs[off]? = some (.pointer (some ⟨g,off,none⟩))):
  Calls prog 241 #[.pointer (some ⟨g,off,none⟩)] w fun e w'=>e=.returned (.tuple #[])∧w'=w:=by
 obtain⟨j,a,_⟩:=Yr.1 zdr;have b:w.cell? ⟨g,off,none⟩=some (.pointer (some ⟨g,off,none⟩)):=(hw.cell off).trans h0;clear hw h0;go_enter Tryz.func241,Tryz.ntmps241;go_wp2;rw[Lib.run_neq_ptr_same w _ Tryz.underlying194 a];go_wp2
 go_end0
 exact⟨rfl,rfl⟩
theorem zdt(T g off:Nat)(cs)(w)(hw:Whole w g T cs)(h0:cs[off]? = some (.pointer none))
  (hlies:liesAt prog prog.depth T (cs.length / prog.cellsOf T) off 196 1=true):
  Calls prog 241 #[.pointer (some ⟨g,off,none⟩)] w fun e w'=>e=.returned (.tuple #[])∧w'=w.setCell ⟨g,off,none⟩ (.pointer (some ⟨g,off,none⟩)):=by
 obtain⟨j,k,a⟩:=Yr.1 zdr
 have f:j.size≠0:=by
  have:j.size=2:=by
   injection a with _ h
   injection h
  omega
 have r:w.cell? ⟨g,off,none⟩=some (.pointer none):=(hw.cell off).trans h0;have n:w.frozen? ⟨g,off,none⟩=false:=hw.frozen off;have d:off < cs.length:=(Xe.1 h0).1
 have b:w.shape? (⟨g,off,none⟩:Addr).block=some (T,cs.length):=by
  unfold Whole at hw;simp[World.shape?,hw]
 have l:=hid b;have m:=hid hlies;have p:=hid a;clear hw h0 b hlies a;go_enter Tryz.func241,Tryz.ntmps241;go_wp2;rw[Lib.run_to_unsafe w ⟨g,off,none⟩ Tryz.underlying194 Tryz.underlying286 k f l.o d];simp only[Result.andThen];rw[Oper.upon_value];go_wp2;rw[run_callFunc_extern Tryz.func300 (by kernel_rfl) (by kernel_rfl) (by kernel_rfl) (e:=Extern.AbiNoEscape.same) (by kernel_rfl)];rw[Lib.run_noEscape];simp only[Result.andThen];rw[Oper.upon_value];go_wp2;rw[Lib.run_from_unsafe w ⟨g,off,none⟩ Tryz.underlying286 Tryz.underlying194 k l.o m.o];simp only[Result.andThen];rw[Oper.upon_value];go_wp2
 go_end0
 exact⟨rfl,rfl⟩
theorem zha{T g off base:Nat}{own:Option Nat}{cs:List Value}{l:List UInt8}{w:World}(h:z5d T g off base own cs l w):
  Calls prog 241 #[.pointer (some ⟨g,off,none⟩)] w fun e w'=>e=.returned (.tuple #[])∧z5d T g off base own (cs.set off (.pointer (some ⟨g,off,none⟩))) l w'∧Fr [g] w w':=by
 obtain⟨v,f,a,d⟩:=h.buf;have j:off+1 < cs.length:=(Xe.1 f).1;rcases h.addr with h0|h0
 ·refine(zdt T g off cs w h.whole h0 h.lies).mono ?_;rintro e w' ⟨rfl,rfl⟩;have b:=Lib.ownBlock_ne a h.whole h.ne;exact⟨rfl,⟨h.whole.set_ off _,.inr (Ut (by omega)),⟨v,by rw[Um (by omega)];exact f,a.kept (row:=some g) ⟨rfl,rfl,rfl,by simp[World.setCell],fun k _ m=>Below.heap_setCell _ _ _ _ (fun e=>m (by simp[e]))⟩ (Or.inr b),d⟩,h.base,h.ne,by rw[Ug];exact h.lies⟩,(Fr.refl [g] w).setCell (p:=⟨g,off,none⟩) (.inl (by simp)) _⟩
 ·refine(zft T g off cs w h.whole h0).mono ?_;rintro e w' ⟨rfl,rfl⟩;rw[zld h0];exact⟨rfl,h,Fr.refl _ _⟩
def Wrote(T g off base:Nat)(own:Option Nat)(cs:List Value)(l:List UInt8)(w w':World):Prop:=
 ∃own' cs',z5d T g off base own' cs' l w'∧cs'.length=cs.length∧(∀i,i≠off→i≠off+1→cs'[i]? = cs[i]?)∧(own'=own∨∃k,own'=some k∧w.heap.size≤k)∧Fr (g :: own.toList) w w'
theorem Wrote.of_base{T g off base:Nat}{own:Option Nat}{cs:List Value}{l:List UInt8}{w:World}(h:z5d T g off base own cs l w):∀k,k∈g :: own.toList→base≤k:=by
 intro k d;obtain⟨v,_,a,b⟩:=h.buf;rcases Yh.1 d with rfl|d
 ·exact h.base
 ·exact(a.lt k (by rw[b];simpa using d)).1
theorem z5d.keep{T g off base:Nat}{own:Option Nat}{cs:List Value}{l:List UInt8}{w w':World}(h:z5d T g off base own cs l w)(hf:Fr (g :: own.toList) w w'){b T':Nat}{ds:List Value}(hw:Whole w b T' ds)(h1:T'≠T)(h2:T'≠5):Whole w' b T' ds:=by
 refine hw.fr hf ?_;intro d;rcases Yh.1 d with rfl|d
 ·exact hw.ne_ h.whole h1 rfl
 ·obtain⟨v,_,a,e⟩:=h.buf;exact Lib.ownBlock_ne a hw h2 (by rw[e];simpa using d)
theorem zfq(l:List UInt8)(c:UInt8):Lib.byteCells (l++[c])=Lib.byteCells l++[.int .u8 c.toNat]:=by simp[Lib.byteCells]
theorem zh4(l m:List UInt8):Lib.byteCells (l++m)=Lib.byteCells l++Lib.byteCells m:=by simp[Lib.byteCells]
theorem znv(s):Lib.strCells s=Lib.byteCells s.data.toList:=rfl
theorem q73:(∀ {T g off base:Nat} {own:Option Nat} {cs:List Value} {l:List UInt8} (c:UInt8) {w:World} (h:z5d T g off base own cs l w) (hlen:l.length+1≤140737488355328) (hB:base≤w.heap.size),Calls prog 169 #[.pointer (some ⟨g,off,none⟩),.int .u8 c.toNat] w fun e w'=>e=.returned .nilIface∧Wrote T g off base own cs (l++[c]) w w')∧(∀ {T g off base:Nat} {own:Option Nat} {cs:List Value} {l:List UInt8} (s:YY) {w:World} (h:z5d T g off base own cs l w) (hlen:l.length+s.size≤140737488355328) (hB:base≤w.heap.size),Calls prog 170 #[.pointer (some ⟨g,off,none⟩),.string s] w fun e w'=>e=.returned (.tuple #[.int .i64 s.size,.nilIface])∧Wrote T g off base own cs (l++s.data.toList) w w'):=by
 refine⟨?_,?_⟩;have f:=hid trivial
 rotate_left
 have W:=hid trivial
 all_goals
  first
  | (guard_hyp f
     intro T g off base own cs l c w h hlen hB)
  | (intro T g off base own cs l s w h hlen hB)
  obtain⟨i0,hi,hz0,hz1,hz2⟩:=info_parts zy2;have U:=hid h;clear h
  first
  | (guard_hyp f
     go_enter Tryz.func169,Tryz.ntmps169)
  | (go_enter Tryz.func170,Tryz.ntmps170)
  go_wp2_with fail;refine(zha U.o).mono ?_;rintro e N ⟨rfl,B,L⟩;obtain⟨v,t,n,F⟩:=B.buf;have Q:off+1 < cs.length:=by simpa using (Xe.1 t).1
  have c1:N.cell? ⟨g,off+1,none⟩=some v:=(B.whole.cell _).trans t;have y:=hid B;have M:=hid F;have V:=hid t;have S:=L.size;clear B F t
  first
  | (guard_hyp f
     go_wp2_with (at_builtin;refine wpList_append_own_at _ rfl _ _ 142 rfl base 5 i0 (.int .u8 0) 1 1 Tryz.underlying142 hi hz0 hz1 hz2 rfl (by decide) _ _ _ rfl (n.alloc _) ⟨N.heap.size,0,none⟩ 1 1 [.int .u8 c.toNat] rfl rfl ?c1 ?c2 ?c3 ?c4 ?c5 ?_)
     case c1=>
      intro j u J
      match j,J with
      | 0,J=>simp at J;subst J;simp[Addr.add]
     case c2=>intro u O;simp at O;subst O;rfl)
  | (go_wp2_with (at_builtin;refine zcf _ rfl _ _ 142 9 rfl base 5 i0 Tryz.underlying142 Tryz.underlying9 hi hz0 hz1 hz2 _ _ _ rfl n s rfl ?c3 ?c4 ?c5 ?_))
  case c3=>unfold maxLen;omega
  case c4=>omega
  first
  | (guard_hyp f
     case c5=>simp;omega
     intro K A b d _ x)
  | (case c5=>omega
     intro K A b d x)
  have D:v.ownBlock≠some g:=Lib.ownBlock_ne n y.o.whole y.o.ne
  first
  | (guard_hyp f
     have I:Whole A g T (cs.set off (.pointer (some ⟨g,off,none⟩))):=(y.o.whole.alloc _).grown d (fun e=>D e.symm))
  | (have I:Whole A g T (cs.set off (.pointer (some ⟨g,off,none⟩))):=y.o.whole.grown d (fun e=>D e.symm))
  have X:A.cell? ⟨g,off+1,none⟩=some v:=(I.cell _).trans V.o;have Y:A.frozen? ⟨g,off+1,none⟩=false:=I.frozen _
  first
  | (guard_hyp f
     obtain⟨z,a,rfl⟩:∃z a,K=.slice (some ⟨z,0,none⟩) (l.length+1) a:=by
      rcases b.2 with⟨_,h0⟩|⟨z,a,cur,t,_⟩
      ·
       omega
      ·
       exact⟨z,a,t⟩)
  | (obtain⟨E,C,a,rfl⟩:∃E C a,K=.slice E C a:=by
      rcases b.2 with⟨t,_⟩|⟨g,a,cur,t,_⟩
      ·
       exact⟨_,_,_,t⟩
      ·
       exact⟨_,_,_,t⟩)
  have G:=hid I;clear I
  first
  | (guard_hyp f
     have r:(Value.slice (some ⟨z,0,none⟩) (l.length+1) a).ownBlock=own∨∃k,(Value.slice (some ⟨z,0,none⟩) (l.length+1) a).ownBlock=some k∧w.heap.size≤k:=by
      rcases x with e|e
      ·
       exact .inl (e.trans M.o)
      ·
       exact .inr ⟨_,e,by first|omega|(simp;omega)⟩)
  | (have r:(Value.slice E C a).ownBlock=own∨∃k,(Value.slice E C a).ownBlock=some k∧w.heap.size≤k:=by
      rcases x with e|e
      ·
       exact .inl (e.trans M.o)
      ·
       exact .inr ⟨_,e,by omega⟩)
  have R:=hid r;clear x r;go_wp2
  first
  | (guard_hyp f
     go_ret)
  | (go_ret2)
  have H:=Lib.ownBlock_ne b G.o y.o.ne;refine⟨rfl,_,_,⟨G.o.set_ (off+1) _,.inr ?_,⟨_,?_,?_,rfl⟩,y.o.base,y.o.ne,?_⟩,?_,?_,R.o,?_⟩
  ·
   rw[Um (by omega)];exact Ut (by omega)
  ·
   rw[Ut (by simp;omega)]
  ·
   first
   | (guard_hyp f
      rw[zfq];have:=b.kept (row:=some g) (w':=A.setCell ⟨g,off+1,none⟩ (.slice (some ⟨z,0,none⟩) (l.length+1) a)) ⟨rfl,rfl,rfl,by simp[World.setCell],fun k _ m=>Below.heap_setCell _ _ _ _ (fun e=>m (by simp[e]))⟩ (Or.inr H))
   | (rw[zh4,←znv]
      have:=b.kept (row:=some g) (w':=A.setCell ⟨g,off+1,none⟩ (.slice E C a)) ⟨rfl,rfl,rfl,by simp[World.setCell],fun k _ m=>Below.heap_setCell _ _ _ _ (fun e=>m (by simp[e]))⟩ (Or.inr H))
   simpa using this
  ·
   simpa using y.o.lies
  ·
   simp
  ·
   intro i B P;rw[Um (fun e=>P e.symm),Um (fun e=>B e.symm)]
  ·
   refine Fr.setCell (p:=⟨g,off+1,none⟩) ?_ (.inl (by simp)) _
   first
   | (guard_hyp f
      refine Fr.grown ((L.more (T:=g :: own.toList) (by intro k m;simp at m;exact .inl (by simp[m]))).alloc _) d ?_)
   | (refine Fr.grown (L.more (T:=g :: own.toList) (by intro k m;simp at m;exact .inl (by simp[m]))) d ?_)
   intro k m;rw[M.o] at m;exact .inl (by simp[m])
abbrev z5o:=@And.left _ _ q73
abbrev z91:=@And.right _ _ q73
theorem zgu{T g off base:Nat}{own:Option Nat}{cs:List Value}{l:List UInt8}{w:World}(h:z5d T g off base own cs l w)(h0:l≠[]):
  Calls prog 171 #[.pointer (some ⟨g,off,none⟩)] w fun e w'=>e=.returned (.string ⟨l.toArray⟩)∧Fr own.toList w w':=by
 obtain⟨v,m,f,n⟩:=h.buf;have p:l.length≠0:=by simpa using h0
 obtain⟨d,a,b,rfl,B,y,C,s,t,k⟩:∃d a b,v=.slice (some ⟨d,0,none⟩) l.length a∧base≤d∧w.heap[d]? = some (.cells b 5 (0,0))∧l.length≤a∧a≤maxLen∧b.size=a * 1∧b.toList.take (l.length * 1)=Lib.byteCells l:=by
  rcases f.2 with⟨_,hz⟩|⟨d,a,b,m,r⟩
  ·exact absurd hz p
  ·exact⟨d,a,b,m,r⟩
 have c1:w.drew.cell? ⟨g,off+1,none⟩=some (.slice (some ⟨d,0,none⟩) l.length a):=(h.whole.drew.cell _).trans m;have c2:w.cell? ⟨g,off+1,none⟩=some (.slice (some ⟨d,0,none⟩) l.length a):=(h.whole.cell _).trans m
 have E:(Builtin.unsafeSliceData_ #[142] 246 #[.slice (some ⟨d,0,none⟩) l.length a]).run prog w.drew=.ok (.pointer (some ⟨d,0,none⟩)) w.drew:=
  Lib.run_unsafeSliceData_row _ _ _ _ _ _ (by omega)
 have z:(Builtin.unsafeString_ #[246,3] 9 #[.pointer (some ⟨d,0,none⟩),.int .i64 l.length]).run prog w.drew=.ok (.string ⟨l.toArray⟩) (w.drew.freeze ⟨d,0,none⟩ l.length):=by
  refine Lib.run_unsafeString_row w.drew 246 3 9 5 Tryz.underlying246 (by kernel_rfl) d b.size (by have u:w.drew.heap[d]? = some (.cells b 5 (0,0)):=y;simp[World.shape?,u]) l h0 (by omega) (by unfold maxLen at s;omega) ?_;intro j x D;have:=f.cells (g:=d) rfl j (.int .u8 x.toNat) (by simp[Lib.byteCells,D]);exact this
 have A:=hid n;clear n h m f y t k h0;go_enter Tryz.func171,Tryz.ntmps171;go_wp2
 go_region
 all_goals
  go_wp2;go_ret;refine⟨rfl,?_⟩;rw[←A.o];exact zyy (Fr.refl _ _).drew (by simp[Value.ownBlock]) _
end
end Go.Proofs.YtnmoajaelmimnaaGreatDoor
