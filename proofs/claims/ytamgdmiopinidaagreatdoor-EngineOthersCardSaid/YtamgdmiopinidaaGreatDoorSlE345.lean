/- Contracts that the proof of E3 uses. No condition beyond those in each theorem. -/
import Derived.Test.YtamgdmiopinidaaGreatDoorSlE312
import Derived.ChangeArms
import Derived.Deep.Slices
import Derived.OpenShut
import Derived.ProofKit
import Derived.SizedLaws
import Derived.SliceStrings
import Derived.WideShapes
set_option linter.unusedVariables false
set_option linter.unusedSimpArgs false
set_option maxHeartbeats 8000000
set_option maxRecDepth 100000
namespace Go.Proofs.YtamgdmiopinidaaGreatDoor
open Tryz (prog)
open Go.ChangeShapes Go.WideShapes Go.RowKit Go.Deep
section
variable {H:Type} {enc:TypeId×Value→H} {w:World}
theorem za0{w:World}{a:Addr}{v:Value}(h:w.cell? a=some v):a=⟨a.block,a.off,none⟩∧a.block < w.heap.size:=by
 refine⟨?_,World.block_lt_of_cell? w a h⟩
 unfold World.cell? at h
 split at h
 ·cases a with
  | mk b o s=>
   cases s with
   | none=>rfl
   | some s=>simp at h
 ·cases h
theorem z6d(b o j:Nat):(⟨b,o,none⟩:Addr).add j=⟨b,o+j,none⟩:=by
 unfold Addr.add
 split
 ·have e:j=0:=by assumption
  rw[e];rfl
 ·rfl
theorem zkj{α:Type}(P:Nat→α→Prop):∀n,(∀i,i < n→∃p,P i p)→∃l:List α,l.length=n∧∀(i:Nat) p,l[i]? = some p→P i p
 | 0,_=>⟨[],rfl,fun i p h=>by simp at h⟩
 | n+1,h=>by
  obtain⟨l,hl,hp⟩:=zkj P n (fun i hi=>h i (by omega))
  obtain⟨q,hq⟩:=h n (by omega)
  refine⟨l++[q],by simp[hl],fun i p hi=>?_⟩
  rcases Nat.lt_or_ge i n with h1|h1
  ·rw[List.getElem?_append_left (by omega)] at hi
   exact hp i p hi
  ·have e:i=n:=by have:=(List.getElem?_eq_some_iff.1 hi).1;simp at this;omega
   subst e
   rw[List.getElem?_append_right (by omega),hl,Nat.sub_self] at hi
   simp at hi
   subst hi
   exact hq
theorem zcp{P:Program}{e:TypeId}:∀ {l:List (DataW H)} {d:DataW H},d∈l→∀q∈d.weights P e,q∈DataW.weightsAll P e l
 | x :: l,d,hd,q,hq=>by
  simp only[DataW.weightsAll,List.mem_append]
  rcases List.mem_cons.1 hd with rfl|hd
  ·exact .inl hq
  ·exact .inr (zcp hd q hq)
theorem z4s{P:Program}{t e:TypeId}{els sp:List (DataW H)}(ht:P.underlying t=some (.slice e))(h:∀q∈(DataW.slice els sp).weights P t,q≤reachBytes) :
  (els.length+sp.length) * P.bytesOf e≤reachBytes∧∀d∈els,∀q∈d.weights P e,q≤reachBytes:=by
 simp only[DataW.weights,ht] at h
 refine⟨h _ (by simp),fun d hd q hq=>h q ?_⟩
 rw[List.mem_cons,List.mem_append]
 exact .inr (.inl (zcp hd q hq))
theorem zc0{b o n size:Nat}{xs:List Value}{A:Option Addr}{c:Nat}(hA:0 < n→A=some ⟨b,o,none⟩)(hx:xs.length=n * size)(hc:n≤c)(hm:c≤maxLen)(hb:0 < n→b < w.heap.size)(hcell:∀j u,xs[j]? = some u→w.cell? ⟨b,o+j,none⟩=some u):Sl w w.heap.size size (.slice A n c) n xs:=
 ⟨A,c,rfl,hx,hc,hm,fun hn=>⟨b,o,hA hn,hb hn,hcell⟩⟩
theorem zqr:prog.bytesOf 9=16:=by kernel_rfl
theorem zpc:prog.bytesOf 86=32:=by kernel_rfl
theorem zlg:prog.bytesOf 91=24:=by kernel_rfl
theorem z7o:prog.cellsOf 9=1:=by kernel_rfl
theorem zfj:prog.cellsOf 3=1:=by kernel_rfl
theorem zot:prog.cellsOf 86=2:=by kernel_rfl
theorem zlq:prog.cellsOf 91=2:=by kernel_rfl
theorem zgt{fuel:Nat}{cs:List Value}{x:DataW H×List MemPlace}(h:DataW.trod enc prog w 0 (fun _=>true) true fuel 24 cs=some x)(hw:∀q∈x.1.weights prog 24,q≤reachBytes) :
  ∃A c l,cs=[.slice A l.length c]∧Sl w w.heap.size 1 (.slice A l.length c) l.length (z03 l)∧l.length≤281474976710656∧∀s∈l,s.size≤281474976710656:=by
 rcases open_strings Tryz.underlying24 Tryz.underlying9 z7o h with⟨rfl,rfl⟩|⟨a,len,cap,ss,rfl,_,hl,hm,hz,rfl,hcell,_⟩
 ·exact⟨none,0,[],rfl,Sl.nil _ _ _,by simp,fun s hs=>by cases hs⟩
 ·obtain⟨h1,h2⟩:=z4s Tryz.underlying24 hw
  simp only[if_true] at hz
  have hlt:(ss.take len).length=len:=by rw[List.length_take];omega
  rw[zqr] at h1
  simp only[strs,List.length_map] at h1
  unfold reachBytes at h1
  refine⟨some a,cap,ss.take len,by rw[hlt],?_,by omega,fun s hs=>?_⟩
  ·rw[hlt]
   rcases Nat.eq_zero_or_pos len with h0|h0
   ·subst h0
    exact⟨_,_,rfl,by simp[z03],hl,hm,fun h=>absurd h (by omega)⟩
   ·have hc0:=hcell 0 (by omega)
    have e0:a.add 0=a:=rfl
    rw[e0] at hc0
    obtain⟨ha,hb⟩:=za0 hc0
    refine zc0 (b:=a.block) (o:=a.off) (fun _=>by rw[←ha]) (by rw[z6k];omega) hl hm (fun _=>hb) (fun j u hu=>?_)
    have hj:j < len:=by have:=(List.getElem?_eq_some_iff.1 hu).1;rw[z6k,hlt] at this;exact this
    have:=hcell j (by omega)
    rw[ha,z6d] at this
    rw[this]
    unfold z03 at hu
    rw[List.getElem?_map,List.getElem?_take_of_lt hj,List.getElem?_eq_getElem (by omega)] at hu
    simp at hu
    rw[List.getD_eq_getElem?_getD,List.getElem?_eq_getElem (by omega)]
    rw[←hu]
    rfl
  ·have:=h2 (.lit (.string s.data.toList)) (by unfold strs;exact List.mem_map.2 ⟨s,hs,rfl⟩) s.data.toList.length (by simp[DataW.weights])
   unfold reachBytes at this
   have e:s.data.toList.length=s.size:=by simp
   omega
theorem ze0:∀(l:List (ByteArray×ByteArray)) (j:Nat) (u:Value),(z0e l)[j]? = some u→∃i p,l[i]? = some p∧((j=2 * i∧u=.string p.1)∨(j=2 * i+1∧u=.string p.2))
 | [],j,u,h=>by simp[z0e] at h
 | q :: l,0,u,h=>⟨0,q,rfl,.inl ⟨rfl,by simpa[z0e] using h.symm⟩⟩
 | q :: l,1,u,h=>⟨0,q,rfl,.inr ⟨rfl,by simpa[z0e] using h.symm⟩⟩
 | q :: l,j+2,u,h=>by
  obtain⟨i,p,hp,hh⟩:=ze0 l j u (by simpa[z0e] using h)
  rcases hh with⟨h1,h2⟩|⟨h1,h2⟩
  ·exact⟨i+1,p,by simpa using hp,.inl ⟨by omega,h2⟩⟩
  ·exact⟨i+1,p,by simpa using hp,.inr ⟨by omega,h2⟩⟩
theorem zck:∀(l:List (Int×ByteArray)) (j:Nat) (u:Value),(z08 l)[j]? = some u→∃i p,l[i]? = some p∧((j=2 * i∧u=.int .i64 p.1)∨(j=2 * i+1∧u=.string p.2))
 | [],j,u,h=>by simp[z08] at h
 | q :: l,0,u,h=>⟨0,q,rfl,.inl ⟨rfl,by simpa[z08] using h.symm⟩⟩
 | q :: l,1,u,h=>⟨0,q,rfl,.inr ⟨rfl,by simpa[z08] using h.symm⟩⟩
 | q :: l,j+2,u,h=>by
  obtain⟨i,p,hp,hh⟩:=zck l j u (by simpa[z08] using h)
  rcases hh with⟨h1,h2⟩|⟨h1,h2⟩
  ·exact⟨i+1,p,by simpa using hp,.inl ⟨by omega,h2⟩⟩
  ·exact⟨i+1,p,by simpa using hp,.inr ⟨by omega,h2⟩⟩
theorem zhh{a:Addr}{cs:List Value}(h:w.cells? 0 a 2=some cs):∃u v,cs=[u,v]∧w.cell? a=some u∧w.cell? (a.add 1)=some v:=by
 obtain⟨_,hl,hat⟩:=World.cells?_some h
 match cs,hl with
 | [u,v],_=>exact⟨u,v,rfl,hat 0 (by omega),hat 1 (by omega)⟩
theorem zpz{fuel:Nat}{cs:List Value}{x:DataW H×List MemPlace}(h:DataW.trod enc prog w 0 (fun _=>true) true fuel 40 cs=some x)(hw:∀q∈x.1.weights prog 40,q≤reachBytes) :
  ∃A c l,cs=[.slice A l.length c]∧Sl w w.heap.size 2 (.slice A l.length c) l.length (z0e l)∧l.length≤281474976710656∧∀p∈l,p.1.size≤281474976710656∧p.2.size≤281474976710656:=by
 rcases open_slice Tryz.underlying40 h with⟨rfl,rfl⟩|⟨a,len,cap,m,n,D,Pl,rfl,_,hl,hm,hmm,rfl,hi⟩
 ·exact⟨none,0,[],rfl,Sl.nil _ _ _,by simp,fun s hs=>by cases hs⟩
 ·obtain⟨h1,h2⟩:=z4s Tryz.underlying40 hw
  simp only[if_true] at hmm
  rw[zpc] at h1
  simp only[List.length_map,List.length_range] at h1
  unfold reachBytes at h1
  rw[zot] at hi
  have each:∀i,i < len→∃p:ByteArray×ByteArray,w.cell? (a.add (i * 2))=some (.string p.1)∧w.cell? ((a.add (i * 2)).add 1)=some (.string p.2)∧p.1.size≤281474976710656∧p.2.size≤281474976710656:=by
   intro i hlt
   obtain⟨cs',hc,ht⟩:=hi i (by omega)
   obtain⟨u,v,rfl,hu,hv⟩:=zhh hc
   obtain⟨ys,k,_,hy,_,hyl,hf⟩:=DataW.trod_struct Tryz.underlying86 ht
   have f0:=hf 0 _ rfl
   have f1:=hf 1 _ rfl
   simp[z7o] at f0 f1
   match ys,hyl with
   | [y0,y1],_=>
    obtain⟨s,hs,rfl,_⟩:=DataW.trod_string Tryz.underlying9 f0
    obtain⟨t,ht2,rfl,_⟩:=DataW.trod_string Tryz.underlying9 f1
    simp at hs ht2
    subst hs
    subst ht2
    simp only[Prod.mk.injEq] at hy
    have hd:=h2 (D i) (List.mem_map.2 ⟨i,by simpa using hlt,rfl⟩)
    rw[hy.1] at hd
    simp only[DataW.weights,Tryz.underlying86,List.map_cons,List.map_nil,DataW.weightsEach] at hd
    refine⟨(s,t),hu,hv,?_,?_⟩
    ·have:=hd s.data.toList.length (by simp)
     unfold reachBytes at this
     have e:s.data.toList.length=s.size:=by simp
     show s.size≤_
     omega
    ·have:=hd t.data.toList.length (by simp)
     unfold reachBytes at this
     have e:t.data.toList.length=t.size:=by simp
     show t.size≤_
     omega
  obtain⟨l,hll,hp⟩:=zkj _ len each
  subst hll
  refine⟨some a,cap,l,rfl,?_,by omega,fun p hp2=>?_⟩
  ·rcases Nat.eq_zero_or_pos l.length with h0|h0
   ·exact⟨_,_,rfl,by rw[z6u];omega,hl,hm,fun h=>absurd h (by omega)⟩
   ·obtain⟨p0,hp0⟩:∃p,l[0]? = some p:=⟨_,List.getElem?_eq_getElem h0⟩
    have hc0:=(hp 0 p0 hp0).1
    have e0:a.add (0 * 2)=a:=rfl
    rw[e0] at hc0
    obtain⟨ha,hb⟩:=za0 hc0
    refine zc0 (b:=a.block) (o:=a.off) (fun _=>by rw[←ha]) (by rw[z6u];omega) hl hm (fun _=>hb) (fun j u hu=>?_)
    obtain⟨i,p,hip,hj⟩:=ze0 l j u hu
    have hq:=hp i p hip
    rw[ha,z6d,z6d] at hq
    rcases hj with⟨rfl,rfl⟩|⟨rfl,rfl⟩
    ·have:=hq.1
     rw[Nat.mul_comm] at this
     exact this
    ·have:=hq.2.1
     rw[Nat.add_assoc,Nat.mul_comm] at this
     exact this
  ·obtain⟨i,hi2⟩:=List.getElem?_of_mem hp2
   exact(hp i p hi2).2.2
theorem zlf{fuel:Nat}{cs:List Value}{x:DataW H×List MemPlace}(h:DataW.trod enc prog w 0 (fun _=>true) true fuel 41 cs=some x)(hw:∀q∈x.1.weights prog 41,q≤reachBytes) :
  ∃A c l,cs=[.slice A l.length c]∧Sl w w.heap.size 2 (.slice A l.length c) l.length (z08 l)∧l.length≤281474976710656∧∀p∈l,(-9223372036854775808≤p.1∧p.1≤9223372036854775807)∧p.2.size≤281474976710656:=by
 rcases open_slice Tryz.underlying41 h with⟨rfl,rfl⟩|⟨a,len,cap,m,n,D,Pl,rfl,_,hl,hm,hmm,rfl,hi⟩
 ·exact⟨none,0,[],rfl,Sl.nil _ _ _,by simp,fun s hs=>by cases hs⟩
 ·obtain⟨h1,h2⟩:=z4s Tryz.underlying41 hw
  simp only[if_true] at hmm
  rw[zlg] at h1
  simp only[List.length_map,List.length_range] at h1
  unfold reachBytes at h1
  rw[zlq] at hi
  have each:∀i,i < len→∃p:Int×ByteArray,w.cell? (a.add (i * 2))=some (.int .i64 p.1)∧w.cell? ((a.add (i * 2)).add 1)=some (.string p.2)∧(-9223372036854775808≤p.1∧p.1≤9223372036854775807)∧p.2.size≤281474976710656:=by
   intro i hlt
   obtain⟨cs',hc,ht⟩:=hi i (by omega)
   obtain⟨u,v,rfl,hu,hv⟩:=zhh hc
   obtain⟨ys,k,_,hy,_,hyl,hf⟩:=DataW.trod_struct Tryz.underlying91 ht
   have f0:=hf 0 _ rfl
   have f1:=hf 1 _ rfl
   simp[z7o,zfj] at f0 f1
   match ys,hyl with
   | [y0,y1],_=>
    obtain⟨s,hs,rfl,hwf⟩:=DataW.trod_int Tryz.underlying3 f0
    obtain⟨t,ht2,rfl,_⟩:=DataW.trod_string Tryz.underlying9 f1
    simp at hs ht2
    subst hs
    subst ht2
    simp only[Prod.mk.injEq] at hy
    have hd:=h2 (D i) (List.mem_map.2 ⟨i,by simpa using hlt,rfl⟩)
    rw[hy.1] at hd
    simp only[DataW.weights,Tryz.underlying91,List.map_cons,List.map_nil,DataW.weightsEach] at hd
    refine⟨(s,t),hu,hv,bounds_i64 hwf,?_⟩
    ·have:=hd t.data.toList.length (by simp)
     unfold reachBytes at this
     have e:t.data.toList.length=t.size:=by simp
     show t.size≤_
     omega
  obtain⟨l,hll,hp⟩:=zkj _ len each
  subst hll
  refine⟨some a,cap,l,rfl,?_,by omega,fun p hp2=>?_⟩
  ·rcases Nat.eq_zero_or_pos l.length with h0|h0
   ·exact⟨_,_,rfl,by rw[z5z];omega,hl,hm,fun h=>absurd h (by omega)⟩
   ·obtain⟨p0,hp0⟩:∃p,l[0]? = some p:=⟨_,List.getElem?_eq_getElem h0⟩
    have hc0:=(hp 0 p0 hp0).1
    have e0:a.add (0 * 2)=a:=rfl
    rw[e0] at hc0
    obtain⟨ha,hb⟩:=za0 hc0
    refine zc0 (b:=a.block) (o:=a.off) (fun _=>by rw[←ha]) (by rw[z5z];omega) hl hm (fun _=>hb) (fun j u hu=>?_)
    obtain⟨i,p,hip,hj⟩:=zck l j u hu
    have hq:=hp i p hip
    rw[ha,z6d,z6d] at hq
    rcases hj with⟨rfl,rfl⟩|⟨rfl,rfl⟩
    ·have:=hq.1
     rw[Nat.mul_comm] at this
     exact this
    ·have:=hq.2.1
     rw[Nat.add_assoc,Nat.mul_comm] at this
     exact this
  ·obtain⟨i,hi2⟩:=List.getElem?_of_mem hp2
   exact(hp i p hi2).2.2
end
section
variable {H:Type} {enc:TypeId×Value→H} {w:World}
theorem ze5{r:Reach}{b0:Nat}{v:Value}{d:DataW H}{p:List MemPlace}(hv:Value.okWide prog w r b0 24 v)(h:DataW.Trod enc prog w 0 (fun _=>true) true 24 v d p)
  (hw:∀q∈d.weights prog 24,q≤reachBytes):∃A c l,v=.slice A l.length c∧Sl w w.heap.size 1 (.slice A l.length c) l.length (z03 l)∧l.length≤281474976710656∧∀s∈l,s.size≤281474976710656:=by
 obtain⟨a,n,c,rfl⟩:=okWide_slice Tryz.underlying24 hv
 obtain⟨fuel,hf⟩:=h
 obtain⟨A,c',l,hl,s1,z1,q1⟩:=zgt (x:=(d,p)) hf hw
 simp[Value.cells] at hl
 obtain⟨rfl,rfl,rfl⟩:=hl
 exact⟨_,_,l,rfl,s1,z1,q1⟩
end
theorem zqh:prog.cellsOf 43=5:=by kernel_rfl
section
variable {H:Type} {enc:TypeId×Value→H} {w:World}
theorem zpa{fuel:Nat}{l:List Value}{xd:DataW H×List MemPlace}(hsz:l.length=5)(hf:DataW.trod enc prog w 0 (fun _=>true) true fuel 43 l=some xd)
  (hw:∀q∈xd.1.weights prog 43,q≤reachBytes):∃x,z0q w w.heap.size (.agg l.toArray) x∧x.Small:=by
 match l,hsz with
 | [a0,a1,a2,a3,a4],_=>
  obtain⟨ys,k,_,hy,_,hyl,hg⟩:=DataW.trod_struct Tryz.underlying43 hf
  have f0:=hg 0 _ rfl
  have f1:=hg 1 _ rfl
  have f2:=hg 2 _ rfl
  have f3:=hg 3 _ rfl
  have f4:=hg 4 _ rfl
  have e1:prog.cellsOf 24=1:=by kernel_rfl
  have e2:prog.cellsOf 40=1:=by kernel_rfl
  have e3:prog.cellsOf 41=1:=by kernel_rfl
  simp[z7o,zfj,e1,e2,e3] at f0 f1 f2 f3 f4
  match ys,hyl with
  | [y0,y1,y2,y3,y4],_=>
   rw[hy] at hw
   simp only[DataW.weights,Tryz.underlying43,List.map_cons,List.map_nil,DataW.weightsEach,List.append_nil,List.mem_append] at hw
   obtain⟨n,hn,rfl,hwf⟩:=DataW.trod_int Tryz.underlying3 f0
   obtain⟨t,ht,rfl,_⟩:=DataW.trod_string Tryz.underlying9 f1
   obtain⟨A1,c1,l1,hl1,s1,z1,q1⟩:=zgt f2 (fun q hq=>hw q (by simp[hq]))
   obtain⟨A2,c2,l2,hl2,s2,z2,q2⟩:=zpz f3 (fun q hq=>hw q (by simp[hq]))
   obtain⟨A3,c3,l3,hl3,s3,z3,q3⟩:=zlf f4 (fun q hq=>hw q (by simp[hq]))
   simp[Value.cells] at hn ht hl1 hl2 hl3
   subst hn
   subst ht
   subst hl1
   subst hl2
   subst hl3
   refine⟨⟨n,t,l1,l2,l3⟩,⟨A1,c1,A2,c2,A3,c3,rfl,s1,s2,s3⟩,⟨bounds_i64 hwf,?_,z1,z2,z3,q1,q2,q3⟩⟩
   have:=hw t.data.toList.length (by simp[DataW.weights])
   unfold reachBytes at this
   have e:t.data.toList.length=t.size:=by simp
   show t.size≤_
   omega
end
theorem zhp(n:Nat)(hn:0 < n):∀(rs:List (List Value)) (j:Nat) (u:Value),(∀c∈rs,c.length=n)→rs.flatten[j]? = some u→∃(i k:Nat) (cs:List Value),rs[i]? = some cs∧k < n∧j=i * n+k∧cs[k]? = some u
 | [],j,u,_,h=>by simp at h
 | r :: rs,j,u,hl,h=>by
  have hr:=hl r (by simp)
  rw[List.flatten_cons] at h
  rcases Nat.lt_or_ge j n with hj|hj
  ·rw[List.getElem?_append_left (by omega)] at h
   exact⟨0,j,r,rfl,hj,by omega,h⟩
  ·rw[List.getElem?_append_right (by omega),hr] at h
   obtain⟨i,k,cs,h1,h2,h3,h4⟩:=zhp n hn rs (j - n) u (fun c hc=>hl c (by simp[hc])) h
   exact⟨i+1,k,cs,by simpa using h1,h2,by rw[Nat.succ_mul];omega,h4⟩
theorem zt6:prog.bytesOf 45=120:=by kernel_rfl
theorem ztd:prog.cellsOf 45=7:=by kernel_rfl
section
variable {H:Type} {enc:TypeId×Value→H} {w:World}
theorem zt9{fuel:Nat}{l:List Value}{xd:DataW H×List MemPlace}(hsz:l.length=7)(hf:DataW.trod enc prog w 0 (fun _=>true) true fuel 45 l=some xd)
  (hw:∀q∈xd.1.weights prog 45,q≤reachBytes):∃x,zdr w w.heap.size l x∧x.Small:=by
 match l,hsz with
 | [a0,a1,a2,a3,a4,a5,a6],_=>
  obtain⟨ys,k,_,hy,_,hyl,hg⟩:=DataW.trod_struct Tryz.underlying45 hf
  have f0:=hg 0 _ rfl
  have f1:=hg 1 _ rfl
  have f2:=hg 2 _ rfl
  simp[z7o,zfj,zqh] at f0 f1 f2
  match ys,hyl with
  | [y0,y1,y2],_=>
   rw[hy] at hw
   simp only[DataW.weights,Tryz.underlying45,List.map_cons,List.map_nil,DataW.weightsEach,List.append_nil,List.mem_append] at hw
   obtain⟨t,ht,rfl,_⟩:=DataW.trod_string Tryz.underlying9 f0
   obtain⟨x,hx,hxs⟩:=zpa rfl f1 (fun q hq=>hw q (by simp[hq]))
   obtain⟨n,hn,rfl,hwf⟩:=DataW.trod_int Tryz.underlying3 f2
   simp[Value.cells] at hn ht
   subst hn
   subst ht
   obtain⟨A1,c1,A2,c2,A3,c3,hv,s1,s2,s3⟩:=hx
   simp at hv
   obtain⟨rfl,rfl,rfl,rfl,rfl⟩:=hv
   refine⟨⟨t,x,n⟩,⟨A1,c1,A2,c2,A3,c3,rfl,s1,s2,s3⟩,⟨?_,hxs,bounds_i64 hwf⟩⟩
   have:=hw t.data.toList.length (by simp[DataW.weights])
   unfold reachBytes at this
   have e:t.data.toList.length=t.size:=by simp
   show t.size≤_
   omega
theorem zct{r:Reach}{b0:Nat}{v:Value}{d:DataW H}{p:List MemPlace}(hv:Value.okWide prog w r b0 23 v)(h:DataW.Trod enc prog w 0 (fun _=>true) true 23 v d p)
  (hw:∀q∈d.weights prog 23,q≤reachBytes):∃A c l,v=.slice A l.length c∧z0v w w.heap.size (.slice A l.length c) l∧l.length≤281474976710656∧∀x∈l,x.Small:=by
 obtain⟨aV,nV,cV,rfl⟩:=okWide_slice Tryz.underlying23 hv
 obtain⟨fuel,hf⟩:=h
 rcases open_slice Tryz.underlying23 hf with⟨hc,hd⟩|⟨a,len,cap,m,n,D,Pl,hc,_,hl,hm,hmm,hx,hi⟩
 ·simp[Value.cells] at hc
  obtain⟨rfl,rfl,rfl⟩:=hc
  exact⟨none,0,[],rfl,z0v.nil _ _,by simp,fun x hx=>by cases hx⟩
 ·simp[Value.cells] at hc
  obtain⟨rfl,rfl,rfl⟩:=hc
  simp only[Prod.mk.injEq] at hx
  obtain⟨hdx,hpx⟩:=hx
  rw[hdx] at hw
  obtain⟨h1,h2⟩:=z4s Tryz.underlying23 hw
  simp only[if_true] at hmm
  rw[zt6] at h1
  simp only[List.length_map,List.length_range] at h1
  unfold reachBytes at h1
  rw[ztd] at hi
  have each:∀i,i < nV→∃q:List Value×Ent,q.1.length=7∧(∀j u,q.1[j]? = some u→w.cell? ((a.add (i * 7)).add j)=some u)∧zdr w w.heap.size q.1 q.2∧q.2.Small:=by
   intro i hlt
   obtain⟨cs',hc,ht⟩:=hi i (by omega)
   obtain⟨_,hl5,hat⟩:=World.cells?_some hc
   have hd:=h2 (D i) (List.mem_map.2 ⟨i,by simpa using hlt,rfl⟩)
   obtain⟨x,hx,hs⟩:=zt9 hl5 ht hd
   refine⟨(cs',x),hl5,fun j u hu=>?_,hx,hs⟩
   have hj:j < cs'.length:=(List.getElem?_eq_some_iff.1 hu).1
   have:=hat j (by omega)
   rw[this]
   exact hu
  obtain⟨l,hll,hp⟩:=zkj _ nV each
  subst hll
  have all5:∀c∈l.map (·.1),c.length=7:=fun c hc=>by
   obtain⟨q,hq,rfl⟩:=List.mem_map.1 hc
   obtain⟨i,hi⟩:=List.getElem?_of_mem hq
   exact(hp i q hi).1
  refine⟨some a,cV,l.map (·.2),by rw[List.length_map],⟨_,_,l.map (·.1),rfl,by simp,fun i x hx=>?_,?_⟩,by rw[List.length_map];omega,fun x hx=>?_⟩
  ·rw[List.getElem?_map] at hx
   obtain⟨q,hq,rfl⟩:=Option.map_eq_some_iff.1 hx
   exact⟨q.1,by rw[List.getElem?_map,hq];rfl,(hp i q hq).2.2.1⟩
  ·rw[List.length_map]
   rcases Nat.eq_zero_or_pos l.length with h0|h0
   ·exact⟨_,_,rfl,by rw[zc4 7 _ all5,List.length_map],hl,hm,fun h=>absurd h (by omega)⟩
   ·obtain⟨q0,hq0⟩:∃p,l[0]? = some p:=⟨_,List.getElem?_eq_getElem h0⟩
    have hs0:=hp 0 q0 hq0
    obtain⟨u0,hu0⟩:∃u,q0.1[0]? = some u:=⟨_,List.getElem?_eq_getElem (by rw[hs0.1];decide)⟩
    have hc0:=hs0.2.1 0 u0 hu0
    have e0:(a.add (0 * 7)).add 0=a:=rfl
    rw[e0] at hc0
    obtain⟨ha,hb⟩:=za0 hc0
    refine zc0 (b:=a.block) (o:=a.off) (fun _=>by rw[←ha]) (by rw[zc4 7 _ all5,List.length_map]) hl hm (fun _=>hb) (fun j u hu=>?_)
    obtain⟨i,k,cs,h3,h4,rfl,h6⟩:=zhp 7 (by decide) _ j u all5 hu
    rw[List.getElem?_map] at h3
    obtain⟨q,hq,rfl⟩:=Option.map_eq_some_iff.1 h3
    have:=(hp i q hq).2.1 k u h6
    rw[ha,z6d,z6d,Nat.add_assoc] at this
    exact this
  ·obtain⟨q,hq,rfl⟩:=List.mem_map.1 hx
   obtain⟨i,hi⟩:=List.getElem?_of_mem hq
   exact(hp i q hi).2.2.2
end
end Go.Proofs.YtamgdmiopinidaaGreatDoor
