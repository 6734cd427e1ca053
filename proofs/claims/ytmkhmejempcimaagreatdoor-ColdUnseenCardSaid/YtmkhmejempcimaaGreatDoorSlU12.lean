/- Contracts; no condition but each theorem's own. -/
import Derived.Test.YtmkhmejempcimaaGreatDoorSlU6
import Derived.Test.YtmkhmejempcimaaGreatDoorSlU7
set_option linter.unusedVariables false
set_option linter.unusedSimpArgs false
set_option maxHeartbeats 8000000
set_option maxRecDepth 100000
namespace Go.Proofs.YtmkhmejempcimaaGreatDoor
open Lib (hid)
open Go.Proofs.Tryz (prog)
open Go.RowKit
def zfn(m:Nat)(ys:List Value)(base:Nat)(v:Value)(w:World)(e:Ending)(w':World):Prop:=
 ∃v',e=.returned v'∧w'.ownsRow base 9 1 v' m ys∧w.grownBy w' v.ownBlock∧v'.ownBlock=v.ownBlock
theorem zeroS:∀w,(zeroValue 9).run prog w=.ok (.string ⟨#[]⟩) w:=fun w=>by kernel_rfl
theorem zka(n i j:Nat)(xs:List Value)(base:Nat)(v:Value)(w:World)(hn:n≤1000000)(hij:i < j)(hj:j≤n)(h:w.ownsRow base 9 1 v n xs)(h1:∀u∈xs,u.oneCell'=true):
  Calls prog 46 #[v,.int .i64 i,.int .i64 j] w (zfn (i+(n - j)) (xs.take (i * 1)++xs.drop (j * 1)) base v w):=by
 obtain⟨i0,hi,hz0,hz1,hz2⟩:=info_parts z2k;obtain⟨A,c,rfl,hA,hc,hm⟩:=z02 h;rcases hA with rfl|⟨g,rfl⟩
 ·exfalso;rcases h.2 with⟨_,h0⟩|⟨g',cap',cur,h',_⟩
  ·omega
  ·cases h'
 obtain⟨cur0,w0,l0,t0,hb0,_,_,hxl⟩:=z1i h;have hdl:(xs.drop (j * 1)).length=(n - j) * 1:=by rw[List.length_drop,hxl];omega
 obtain⟨zs,hzs⟩:∃zs,zs=(Builtin.zeroCells (Value.cells (.string ⟨#[]⟩)) (n - (i+(n - j)))).toList:=⟨_,rfl⟩;have hzl:zs.length=(j - i) * 1:=by rw[hzs];simp[Builtin.zeroCells,Value.cells];omega
 obtain⟨cur1,w1,l1,o2⟩:=zct (w:=w.drew) h hij hj hzl
 obtain⟨A,hA,hsrc⟩:∃A:Addr,(if c=j then (some ⟨g,0,none⟩:Option Addr) else some ⟨g,j,none⟩)=some A∧Hid (∀t u,(xs.drop (j * 1))[t]? = some u→w.drew.cell? (A.add t)=some u):=by
  by_cases hcj:c=j
  ·refine⟨⟨g,0,none⟩,by simp[hcj],fun t u hu=>?_⟩;have h0:(xs.drop (j * 1)).length=0:=by rw[hdl];omega
   rw[List.length_eq_zero_iff.1 h0] at hu;simp at hu
  ·refine⟨⟨g,j * 1,none⟩,by simp[hcj],fun t u hu=>?_⟩;rw[List.getElem?_drop] at hu;have hlt:=(List.getElem?_eq_some_iff.1 hu).1;have:=(h.cellAt (j * 1+t) (by omega)).trans hu;unfold Addr.add;split
   ·have e:t=0:=by assumption
    subst e;exact this
   ·exact this
 have s1:=hid hdl;have s2:=hid (show ∀u∈xs.drop (j * 1),u.oneCell'=true from fun u hu=>h1 u (List.mem_of_mem_drop hu));have hcn:(i+(n - j)) * 1≤c * 1:=Nat.mul_le_mul_right _ (by omega)
 have s3:=hid (show ∀t,t < (xs.drop (j * 1)).length→(w.drew.cell? ⟨g,0+i * 1+t,none⟩).isSome=true∧w.drew.frozen? ⟨g,0+i * 1+t,none⟩=false from fun t ht=>by
  rw[Nat.zero_add];exact z12 w0 (o:=i * 1) (m:=(n - j) * 1) (by rw[l0];omega) t (by omega))
 obtain⟨W1,hW1⟩:∃W1,W1=w.drew.setCells g (0+i * 1) (xs.drop (j * 1)):=⟨_,rfl⟩
 have hcl:∀ty,(Builtin.clear_ #[41] ty #[.slice (some ⟨g,(i+(n - j)),none⟩) (n - (i+(n - j))) (c - (i+(n - j)))]).run prog W1=.ok (.tuple #[]) (W1.setCells g ((i+(n - j))) zs):=fun ty=>by
  have:=z4d (P:=prog) W1 41 9 ty (.string ⟨#[]⟩) Tryz.underlying41 zeroS (by intro u hu;simp[Value.cells] at hu;rcases hu with rfl|rfl <;> rfl) g ((i+(n - j)) * 1) (n - (i+(n - j))) (c - (i+(n - j))) (by omega) (fun t ht=>by
   rw[hW1,Nat.zero_add];exact z12 (w:=(w.drew.setCells g (i * 1) (xs.drop (j * 1)))) w1 (o:=(i+(n - j)) * 1) (m:=(n - (i+(n - j))) * 1) (by rw[l1];omega) t (by simpa[Value.cells] using ht))
  rw[←hzs,show(i+(n - j)) * 1=(i+(n - j)) by omega] at this;exact this
 rw[show(i+(n - j)) * 1=(i+(n - j)) by omega] at o2;have O2:=hid o2;have HW:=hid hW1;have hic:i≤c:=by omega
 have hjc:j≤c:=by omega
 have hlt:i < j:=hij;unfold maxLen at hm;clear h h1 cur0 w0 l0 t0 hb0 hxl hdl hzs hzl w1 l1 o2 cur1 hW1 hcn;go_enter Tryz.func46,Tryz.ntmps46;go_wp2_with fail
 go_region_law (refine step_append_room rfl (.tmp 22) (.tmp 25) 41 rfl 9 i0 1 Tryz.underlying41 hi hz1 g 0 i c (by simp[Act.eval,Act.put]) A (n - j) (c - j) (xs.drop (j * 1)) (by simp[Act.eval,Act.put]) s1.out hsrc.out s2.out (by omega) s3.out ?_;rw[←HW.out])
 go_wp2;go_ret;have e1:=HW.out;rw[Nat.zero_add] at e1;subst e1;exact⟨_,rfl,O2.out,z2b ((z0e _ _ _).trans (z0e _ _ _)),rfl⟩
end Go.Proofs.YtmkhmejempcimaaGreatDoor
namespace Go.Proofs.YtmkhmejempcimaaGreatDoor
open Lib (hid)
open Go.Proofs.Tryz (prog)
open Go.ChangeShapes Go.WideShapes Go.RowKit Go.Deep
theorem zj3:prog.cellsOf 46=5:=by kernel_rfl
section
variable {H:Type} {enc:TypeId×Value→H} {w:World}
theorem zic{fuel:Nat}{l:List Value}{xd:DataW H×List MemPlace}(hsz:l.length=5)(hf:DataW.trod enc prog w 0 (fun _=>true) true fuel 46 l=some xd)
  (hw:∀q∈xd.1.weights prog 46,q≤reachBytes):∃x,z1m w w.heap.size (.agg l.toArray) x∧x.Small:=by
 match l,hsz with
 | [a0,a1,a2,a3,a4],_=>
  obtain⟨ys,k,_,hy,_,hyl,hg⟩:=DataW.trod_struct Tryz.underlying46 hf;have f0:=hg 0 _ rfl;have f1:=hg 1 _ rfl;have f2:=hg 2 _ rfl;have f3:=hg 3 _ rfl;have f4:=hg 4 _ rfl;have e1:prog.cellsOf 41=1:=by kernel_rfl
  have e2:prog.cellsOf 43=1:=by kernel_rfl
  have e3:prog.cellsOf 44=1:=by kernel_rfl
  simp[z4y,z7o,e1,e2,e3] at f0 f1 f2 f3 f4
  match ys,hyl with
  | [y0,y1,y2,y3,y4],_=>
   rw[hy] at hw;simp only[DataW.weights,Tryz.underlying46,List.map_cons,List.map_nil,DataW.weightsEach,List.append_nil,List.mem_append] at hw;obtain⟨n,hn,rfl,hwf⟩:=DataW.trod_int Tryz.underlying3 f0;obtain⟨t,ht,rfl,_⟩:=DataW.trod_string Tryz.underlying9 f1;obtain⟨A1,c1,l1,hl1,s1,z1,q1⟩:=zcg f2 (fun q hq=>hw q (by simp[hq]));obtain⟨A2,c2,l2,hl2,s2,z2,q2⟩:=zhv f3 (fun q hq=>hw q (by simp[hq]));obtain⟨A3,c3,l3,hl3,s3,z3,q3⟩:=zfy f4 (fun q hq=>hw q (by simp[hq]));simp[Value.cells] at hn ht hl1 hl2 hl3;subst hn;subst ht;subst hl1;subst hl2;subst hl3;refine⟨⟨n,t,l1,l2,l3⟩,⟨A1,c1,A2,c2,A3,c3,rfl,s1,s2,s3⟩,⟨bounds_i64 hwf,?_,z1,z2,z3,q1,q2,q3⟩⟩;have:=hw t.data.toList.length (by simp[DataW.weights]);unfold reachBytes at this;have e:t.data.toList.length=t.size:=by simp
   show t.size≤_;omega
end
theorem zkm:prog.bytesOf 41=24:=by kernel_rfl
theorem zkk:prog.cellsOf 41=1:=by kernel_rfl
section
variable {H:Type} {enc:TypeId×Value→H} {w:World}
theorem zma{fuel:Nat}{cs:List Value}{x:DataW H×List MemPlace}(h:DataW.trod enc prog w 0 (fun _=>true) true fuel 23 cs=some x)(hw:∀q∈x.1.weights prog 23,q≤reachBytes):
  ∃A c l,cs=[.slice A l.length c]∧z2p w w.heap.size (.slice A l.length c) l∧l.length≤5864062014634∧∀r∈l,r.length≤281474976710656∧∀s∈r,s.size≤281474976710656:=by
 rcases open_slice Tryz.underlying23 h with⟨hc,hd⟩|⟨a,len,cap,m,n,D,Pl,hc,_,hl,hm,hmm,hx,hi⟩
 ·exact⟨none,0,[],hc,z2p.nil _ _,by simp,fun x hx=>by cases hx⟩
 ·rw[hx] at hw;obtain⟨h1,h2⟩:=z2a Tryz.underlying23 hw;simp only[if_true] at hmm;rw[zkm] at h1;simp only[List.length_map,List.length_range] at h1;unfold reachBytes at h1;rw[zkk] at hi
  have each:∀i,i < len→∃q:Value×List ByteArray,w.cell? (a.add i)=some q.1∧TxV w w.heap.size q.1 q.2∧q.2.length≤281474976710656∧∀s∈q.2,s.size≤281474976710656:=by
   intro i hlt;obtain⟨cs',hc',ht⟩:=hi i (by omega);obtain⟨_,hl1,hat⟩:=World.cells?_some hc';have hd:=h2 (D i) (List.mem_map.2 ⟨i,by simpa using hlt,rfl⟩);obtain⟨A1,c1,r,hr,s1,z1,q1⟩:=zcg ht hd;have e0:=hat 0 (by omega);subst hr;have e1:(a.add (i * 1)).add 0=a.add i:=by rw[Nat.mul_one];rfl
   rw[e1] at e0;exact⟨(.slice A1 r.length c1,r),e0,⟨A1,c1,rfl,s1⟩,z1,q1⟩
  obtain⟨l,hll,hp⟩:=zcc _ len each;subst hll;refine⟨some a,cap,l.map (·.2),by rw[List.length_map];exact hc,⟨_,_,l.map (·.1),rfl,⟨by simp,fun i x hx=>?_⟩,?_⟩,by rw[List.length_map];omega,fun x hx=>?_⟩
  ·rw[List.getElem?_map] at hx;obtain⟨q,hq,rfl⟩:=Option.map_eq_some_iff.1 hx;exact⟨q.1,by rw[List.getElem?_map,hq];rfl,(hp i q hq).2.1⟩
  ·rw[List.length_map];rcases Nat.eq_zero_or_pos l.length with h0|h0
   ·exact⟨_,_,rfl,by simp,hl,hm,fun h=>absurd h (by omega)⟩
   ·obtain⟨q0,hq0⟩:∃p,l[0]? = some p:=⟨_,List.getElem?_eq_getElem h0⟩;have hc0:=(hp 0 q0 hq0).1;have e0:a.add 0=a:=rfl;rw[e0] at hc0;obtain⟨ha,hb⟩:=z4v hc0;refine z67 (b:=a.block) (o:=a.off) (fun _=>by rw[←ha]) (by simp) hl hm (fun _=>hb) (fun j u hu=>?_);rw[List.getElem?_map] at hu;obtain⟨q,hq,rfl⟩:=Option.map_eq_some_iff.1 hu;have:=(hp j q hq).1;rw[ha,z3k] at this;exact this
  ·obtain⟨q,hq,rfl⟩:=List.mem_map.1 hx;obtain⟨i,hi⟩:=List.getElem?_of_mem hq;exact(hp i q hi).2.2
end
end Go.Proofs.YtmkhmejempcimaaGreatDoor
namespace Go.Proofs.YtmkhmejempcimaaGreatDoor
open Lib (hid)
open Go.Proofs.Tryz (prog)
open Go.RowKit
theorem zk8(g:Nat)(lb:Array Value)(eg:∀args w,(callFunc g args).run prog w=.ok (.enter g args) w)(p:ByteArray→Bool)(D:Nat)(l:List ByteArray)(A:Option Addr)(c B:Nat)(w:World)(hp:zom g lb p D w)(hl:l.length≤281474976710656)(hB:B≤w.heap.size)
  (hsl:Sl w B 1 (.slice A l.length c) l.length (z04 l)):
  Calls prog 93 #[.slice A l.length c,.func (Fn.func g) #[] lb] w fun e w'=>e=.returned (.bool (l.any p))∧Fr [] w w':=by
 have I:=hid (zkr g lb eg p D l A c B w hp hl hB hsl);have h:=z3t p l;clear hsl hp;generalize z2w p l=r at *;generalize l.any p=b at *;generalize l.length=n at *;cases b
 ·have hr:r < 0:=by simpa using h
  clear h;go_enter Tryz.func93,Tryz.ntmps93;go_wp2_with fail;refine I.out.mono ?_;rintro e w1 ⟨rfl,h1⟩;go_wp2;go_ret;exact⟨by simp <;> omega,h1⟩
 ·have hr:0≤r:=by simpa using h
  clear h;go_enter Tryz.func93,Tryz.ntmps93;go_wp2_with fail;refine I.out.mono ?_;rintro e w1 ⟨rfl,h1⟩;go_wp2;go_ret;exact⟨by simp <;> omega,h1⟩
def z0v(l:List ByteArray):Int:=if l.length=0 then 1 else if 12 < l.length then 2 else if l.any z2r=true then 2 else 0
theorem z3l{l:List ByteArray}(h:z0v l=0):zoo l:=by
 unfold z0v at h;split at h
 ·cases h
 ·split at h
  ·cases h
  ·split at h
   ·cases h
   ·rename_i h1 h2 h3;refine⟨by omega,by omega,fun s hs=>?_⟩;have:=h3;simp only[Bool.not_eq_true,List.any_eq_false] at this;have:=this s hs;unfold z2r at this;simp at this;exact this
theorem zh0(s:ByteArray)(w:World):Calls prog 94 (#[.string s]++#[]) w fun e w'=>e=.returned (.bool (z2r s))∧w'=w:=by
 unfold z2r;go_enter Tryz.func94,Tryz.ntmps94;go_wp2;go_ret;exact⟨by simp <;> omega,rfl⟩
theorem z4k(l:List ByteArray)(A:Option Addr)(c B:Nat)(w:World)(hl:l.length≤281474976710656)(hB:B≤w.heap.size)(h:Sl w B 1 (.slice A l.length c) l.length (z04 l)):
  Calls prog 60 #[.slice A l.length c] w fun e w'=>e=.returned (.int .i64 (z0v l))∧Fr [] w w':=by
 have CF:=hid (zk8 94 #[] (z3z Tryz.func94 (by kernel_rfl) rfl) z2r w.heap.size l A c B w (fun W x hW=>(zh0 x W).mono fun e w' ⟨he,hw⟩=>⟨he,by rw[hw];exact Fr.refl _ _⟩) hl hB h);have EW:z0v l=if l.length=0 then 1 else if 12 < l.length then 2 else if l.any z2r=true then 2 else 0:=rfl
 clear h;by_cases h0:l.length=0
 ·rw[EW,if_pos h0];have q:((l.length:Int)==0)=true:=beq_iff_eq.2 (by omega);clear EW CF;go_enter Tryz.func60,Tryz.ntmps60;go_wp2;go_ret;exact⟨rfl,Fr.refl _ _⟩
 ·have q:((l.length:Int)==0)=false:=beq_eq_false_iff_ne.2 (by omega);rw[EW,if_neg h0];by_cases h12:12 < l.length
  ·rw[if_pos h12];clear EW CF h0;have q2:(l.length:Int) > 12:=by omega
   go_enter Tryz.func60,Tryz.ntmps60;go_wp2;go_ret;exact⟨rfl,Fr.refl _ _⟩
  ·rw[if_neg h12];have q2:¬(l.length:Int) > 12:=by omega
   clear EW h0;generalize l.any z2r=b at *;cases b
   all_goals
    go_enter Tryz.func60,Tryz.ntmps60;go_wp2_with fail;refine CF.out.mono ?_;rintro e w1 ⟨rfl,f1⟩;go_wp2;go_ret;exact⟨rfl,f1⟩
def ofV(v:Value)(x:Itm):Value:=if many x=0 then .agg #[.int .i64 0,.string ⟨#[]⟩,.slice none 0 0,.slice none 0 0,.slice none 0 0] else v
theorem zpq(x:Itm)(v:Value)(w:World)(B:Nat)(hs:x.Small)(hB:B≤w.heap.size)(h:z1m w B v x)(hk:x.kind≠1):
  Calls prog 238 #[v] w fun e w'=>e=.returned (ofV v x)∧Fr [] w w':=by
 have M:=hid (fun W (hf:Fr [] w W)=>zab x v W B hs (h.fr hf hB (by simp)));obtain⟨A1,c1,A2,c2,A3,c3,rfl,h1,h2,h3⟩:=h;have F1:Fr [] w ((w.alloc (.cells #[.int .i64 x.kind,.string x.text,.slice A1 x.list.length c1,.slice A2 x.pairs.length c2,.slice A3 x.scores.length c3] 46)).alloc (.cells #[.int .i64 0,.string ⟨#[]⟩,.slice none 0 0,.slice none 0 0,.slice none 0 0] 46)):=((Fr.refl [] w).alloc _).alloc _;have V1:=hid (show Whole ((w.alloc (.cells #[.int .i64 x.kind,.string x.text,.slice A1 x.list.length c1,.slice A2 x.pairs.length c2,.slice A3 x.scores.length c3] 46)).alloc (.cells #[.int .i64 0,.string ⟨#[]⟩,.slice none 0 0,.slice none 0 0,.slice none 0 0] 46)) w.heap.size 46 [.int .i64 x.kind,.string x.text,.slice A1 x.list.length c1,.slice A2 x.pairs.length c2,.slice A3 x.scores.length c3] from(Whole.new w _ _).alloc _)
 have R1:=hid (show Whole ((w.alloc (.cells #[.int .i64 x.kind,.string x.text,.slice A1 x.list.length c1,.slice A2 x.pairs.length c2,.slice A3 x.scores.length c3] 46)).alloc (.cells #[.int .i64 0,.string ⟨#[]⟩,.slice none 0 0,.slice none 0 0,.slice none 0 0] 46)) (w.heap.size+1) 46 [.int .i64 0,.string ⟨#[]⟩,.slice none 0 0,.slice none 0 0,.slice none 0 0] from by
  have:=Whole.new (w.alloc (.cells #[.int .i64 x.kind,.string x.text,.slice A1 x.list.length c1,.slice A2 x.pairs.length c2,.slice A3 x.scores.length c3] 46)) 46 [.int .i64 0,.string ⟨#[]⟩,.slice none 0 0,.slice none 0 0,.slice none 0 0];simpa using this)
 have q1:(x.kind != 1)=true:=by simpa using hk
 obtain⟨d0,d1,d2,d3,d4⟩:=five V1.out;clear h1 h2 h3 hs hk;unfold ofV;generalize many x=m at *;by_cases hm:m=0
 ·subst hm;rw[if_pos rfl];go_enter Tryz.func238,Tryz.ntmps238;go_wp2_with fail;refine(M.out _ F1).mono ?_;rintro e w1 ⟨rfl,f1⟩;have F2:=F1.trans f1;have V2:=hid (V1.out.fr f1 (by simp));have R2:=hid (R1.out.fr f1 (by simp));clear d0 d1 d2 d3 d4;obtain⟨d0,d1,d2,d3,d4⟩:=five V2.out;obtain⟨a0,a1,a2,a3,a4⟩:=five R2.out;obtain⟨b0,b2,b3,b4,b5⟩:=z23 R2.out;go_wp2;refine bodyPost_ret (v:=.agg #[.int .i64 0,.string ⟨#[]⟩,.slice none 0 0,.slice none 0 0,.slice none 0 0]) (by simp[results,Tryz.results238,go_sem,a0,a1,a2,a3,a4]) rfl ?_;refine⟨rfl,z3o F2 (by omega) _ _ _ _ _⟩
 ·rw[if_neg hm];have q2:((m:Int)==0)=false:=by simp;omega
  go_enter Tryz.func238,Tryz.ntmps238;go_wp2_with fail;refine(M.out _ F1).mono ?_;rintro e w1 ⟨rfl,f1⟩;have F2:=F1.trans f1;have V2:=hid (V1.out.fr f1 (by simp));have R2:=hid (R1.out.fr f1 (by simp));clear d0 d1 d2 d3 d4;obtain⟨d0,d1,d2,d3,d4⟩:=five V2.out;obtain⟨a0,a1,a2,a3,a4⟩:=five R2.out;obtain⟨b0,b2,b3,b4,b5⟩:=z23 R2.out;go_wp2;refine bodyPost_ret (v:=.agg #[.int .i64 x.kind,.string x.text,.slice A1 x.list.length c1,.slice A2 x.pairs.length c2,.slice A3 x.scores.length c3]) (by simp[results,Tryz.results238,go_sem,a0,a1,a2,a3,a4]) rfl ?_;refine⟨rfl,z3o F2 (by omega) _ _ _ _ _⟩
theorem zlj(l:List ByteArray)(A:Option Addr)(c:Nat)(w:World)(B:Nat)(hl:l.length≤281474976710656)(hB:B≤w.heap.size)(h:Sl w B 1 (.slice A l.length c) l.length (z04 l)):
  Calls prog 190 #[.slice A l.length c] w fun e w'=>e=.returned (.int .i64 (z19 l))∧Fr [] w w':=by
 have C:=hid (zem l A c B w hl hB h);unfold z19;generalize l.any z2r=b at *;clear h;by_cases hm:l.length=0
 ·rw[if_pos hm];have q:((l.length:Int)==0)=true:=by simp[hm]
  go_enter Tryz.func190,Tryz.ntmps190;go_wp2;go_ret;exact⟨rfl,Fr.refl [] w⟩
 ·rw[if_neg hm];have q:((l.length:Int)==0)=false:=beq_eq_false_iff_ne.2 (by omega);clear hm;cases b
  ·go_enter Tryz.func190,Tryz.ntmps190;go_wp2_with fail;refine C.out.mono ?_;rintro e w1 ⟨rfl,f1⟩;go_wp2;go_ret;exact⟨rfl,f1⟩
  ·go_enter Tryz.func190,Tryz.ntmps190;go_wp2_with fail;refine C.out.mono ?_;rintro e w1 ⟨rfl,f1⟩;go_wp2;go_ret;exact⟨rfl,f1⟩
def Turned(l d:List ByteArray)(m:Nat):Prop:=d.length=l.length∧∀t,t < l.length→d[t]? = if t < m∨l.length < t+1+m then l[l.length - 1 - t]? else l[t]?
theorem zdp(l:List ByteArray):Turned l l 0:=⟨rfl,fun t ht=>by rw[if_neg (by omega)]⟩
theorem zcy{l d:List ByteArray}{m:Nat}{a b:ByteArray}(h:Turned l d m)(hm:m+1+m < l.length)(ha:d[m]? = some a)(hb:d[l.length - 1 - m]? = some b):
  Turned l ((d.set m b).set (l.length - 1 - m) a) (m+1):=by
 refine⟨by simp[h.1],fun t ht=>?_⟩;have hl:=h.1;have e1:=h.2 m (by omega);have e2:=h.2 (l.length - 1 - m) (by omega);rw[if_neg (by omega),ha] at e1;rw[if_neg (by omega),hb] at e2;by_cases h1:t=l.length - 1 - m
 ·rw[h1,List.getElem?_set_self (by simp;omega),if_pos (by omega),show l.length - 1 - (l.length - 1 - m)=m by omega];exact e1
 ·rw[List.getElem?_set_ne (by omega)];by_cases h2:t=m
  ·rw[h2,List.getElem?_set_self (by omega),if_pos (by omega)];exact e2
  ·rw[List.getElem?_set_ne (by omega),h.2 t ht];by_cases h3:t < m∨l.length < t+1+m
   ·rw[if_pos h3,if_pos (by omega)]
   ·rw[if_neg h3,if_neg (by omega)]
theorem zg5{l d:List ByteArray}{m:Nat}(h:Turned l d m)(hm:l.length≤m+1+m):d=l.reverse:=by
 apply List.ext_getElem?;intro t;by_cases ht:t < l.length
 ·rw[h.2 t ht,List.getElem?_reverse ht];by_cases h3:t < m∨l.length < t+1+m
  ·rw[if_pos h3]
  ·rw[if_neg h3];congr 1;omega
 ·rw[List.getElem?_eq_none (by have:=h.1;omega),List.getElem?_eq_none (by simp;omega)]
def zob(l:List ByteArray)(base:Nat)(v:Value)(w:World)(e:Ending)(w':World):Prop:=e=.returned (.tuple #[])∧w'.ownsRow base 9 1 v l.length (z04 l.reverse)∧w.grownBy w' v.ownBlock
theorem zna(l:List ByteArray)(base:Nat)(v:Value)(w:World)(hl:l.length≤1000000)(h:w.ownsRow base 9 1 v l.length (z04 l)):
  Calls prog 191 #[v] w (zob l base v w):=by
 obtain⟨A,c,rfl,hA,hc,hm⟩:=z02 h;rcases hA with rfl|⟨g,rfl⟩
 ·have h0:l.length=0:=by
   rcases h.2 with⟨_,h0⟩|⟨g',cap',cur,h',_⟩
   ·exact h0
   ·cases h'
  obtain rfl:l=[]:=List.eq_nil_of_length_eq_zero h0;have H:=hid h;clear h h0;go_enter Tryz.func191,Tryz.ntmps191;go_wp2;go_loopg [2,3] 0 (fun _ s2 s3 wr=>s2=.int .i64 0∧s3=.int .i64 (-1)∧wr=w)
  case atStart=>exact⟨rfl,rfl,rfl⟩
  case round=>
   obtain⟨rfl,rfl,rfl⟩:=hrel;go_wp2
   go_end0
   exact⟨rfl,H.out,z9d _ _⟩
 ·have H:=hid h;clear h;go_enter Tryz.func191,Tryz.ntmps191;go_wp2
  go_loopg [2,3] l.length (fun k s2 s3 wr=>∃(m:Nat) (d:List ByteArray),k=l.length - m∧m≤l.length∧s2=.int .i64 m∧s3=.int .i64 ((l.length:Int) - 1 - (m:Int))∧Turned l d m ∧
   wr.ownsRow base 9 1 (.slice (some ⟨g,0,none⟩) l.length c) l.length (z04 d)∧w.grownBy wr (some g))
  case atStart=>exact⟨0,l,rfl,Nat.zero_le _,rfl,by simp,zdp l,H.out,z9d _ _⟩
  case round=>
   obtain⟨m,d,rfl,hml,rfl,rfl,hT,ho,hg⟩:=hrel;have HT:=hid hT;have hdl:=hT.1;by_cases hlt:m+1+m < l.length
   ·obtain⟨a,ha⟩:∃a,d[m]? = some a:=⟨_,List.getElem?_eq_getElem (by omega)⟩;obtain⟨b,hb⟩:∃b,d[l.length - 1 - m]? = some b:=⟨_,List.getElem?_eq_getElem (by omega)⟩;obtain⟨j,hj⟩:∃j,j=l.length - 1 - m:=⟨_,rfl⟩;have c1:wr.cell? ⟨g,m,none⟩=some (.string a):=(ho.cellAt m (by omega)).trans (z0x d m a ha);have c2:wr.cell? ⟨g,j,none⟩=some (.string b):=(ho.cellAt j (by omega)).trans (z0x d j b (by rw[hj];exact hb));have f1:=ho.frozenAt m;have f2:=ho.frozenAt j;have HA:=hid ha;have HB:=hid hb;have HO:=hid ho;have HG:=hid hg;have ej:(l.length:Int) - 1 - (m:Int)=(j:Int):=by omega
    rw[ej];have hjl:j < l.length:=by omega
    have hmj:m < j:=by omega
    have HJ:=hid hj;clear hT ho hg ha hb hj ej hdl;go_wp2_with fail
    go_region
    go_wp2;go_roundg (l.length - (m+1))
    case measure=>omega
    case rel=>
     have o1:=(HO.out.stored m (.string b));have o2:=(o1.1.stored j (.string a));have N:=zcy HT.out hlt HA.out HB.out;have hj:=HJ.out;refine⟨m+1,(d.set m b).set j a,rfl,by omega,by simp,?_,by rw[hj];exact N,by rw[z9f,z9f];exact o2.1,z9a ((HG.out.trans o1.2).trans o2.2)⟩;congr 1;omega
   ·have N:=zg5 HT.out (by omega);clear hT hdl;have HO:=hid ho;have HG:=hid hg;have HN:=hid N;clear ho hg N;go_wp2
    go_end0
    exact⟨rfl,by rw[←HN.out];exact HO.out,HG.out⟩
end Go.Proofs.YtmkhmejempcimaaGreatDoor
