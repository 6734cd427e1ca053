/- Contracts that the proof of E3 uses. No condition beyond those in each theorem. -/
import Derived.Test.YtamgdmiopinidaaGreatDoorSlE313
set_option linter.unusedVariables false
set_option linter.unusedSimpArgs false
set_option maxHeartbeats 8000000
set_option maxRecDepth 100000
namespace Go.Proofs.YtamgdmiopinidaaGreatDoor
open Lib (hid)
open Tryz (prog)
open Go.RowKit
theorem zw0{α:Type}:∀ {c:List α},c.length=7→∃a0 a1 a2 a3 a4 a5 a6,c=[a0,a1,a2,a3,a4,a5,a6]
 | [a0,a1,a2,a3,a4,a5,a6],_=>⟨a0,a1,a2,a3,a4,a5,a6,rfl⟩
theorem zh8(s0 s1 s2 s3 s4 s5 s6:Value):∀(d:List (List Value)) (i:Nat),(∀c∈d,c.length=7)→i < d.length→(d.set i [s0,s1,s2,s3,s4,s5,s6]).flatten=(((((((d.flatten.set (i * 7) s0).set (i * 7+1) s1).set (i * 7+2) s2).set (i * 7+3) s3).set (i * 7+4) s4).set (i * 7+5) s5).set (i * 7+6) s6)
 | [],i,_,h=>absurd h (by simp)
 | c :: d,0,hc,_=>by
  obtain⟨a0,a1,a2,a3,a4,a5,a6,rfl⟩:=zw0 (hc c (by simp))
  rfl
 | c :: d,i+1,hc,h=>by
  obtain⟨a0,a1,a2,a3,a4,a5,a6,rfl⟩:=zw0 (hc c (by simp))
  have e:∀k,(i+1) * 7+k=i * 7+k+7:=fun k=>by omega
  have e0:(i+1) * 7=i * 7+7:=by omega
  rw[List.set_cons_succ,List.flatten_cons,zh8 s0 s1 s2 s3 s4 s5 s6 d i (fun c h=>hc c (by simp[h])) (by simpa using h),List.flatten_cons,e0]
  simp only[show ∀k,i * 7+7+k=i * 7+k+7 from fun k=>by omega]
  rfl
def ze7(c:List Value):Prop:=∃sk sn st A1 n1 d1 A2 n2 d2 A3 n3 d3 su,c=[.string sk,.int .i64 sn,.string st,.slice A1 n1 d1,.slice A2 n2 d2,.slice A3 n3 d3,.int .i64 su]
theorem ze7.len{c:List Value}(h:ze7 c):c.length=7:=by obtain⟨_,_,_,_,_,_,_,_,_,_,_,_,_,rfl⟩:=h;rfl
def zx1(g:Nat)(lb:Array Value)(l:List (List Value))(p:List Value→Bool)(S:List Nat)(w:World):Prop:=
 ∀W (x:List Value),x∈l→Fr S w W→Calls prog g (#[.agg x.toArray]++lb) W fun e w'=>e=.returned (.bool (p x))∧Fr [] W w'
theorem zsi(g:Nat)(lb:Array Value)(eg:∀args w,(callFunc g args).run prog w=.ok (.enter g args) w)(p:List Value→Bool)(S:List Nat)(l:List (List Value))(A:Option Addr)(c B:Nat)(w:World)(hsh:∀c∈l,ze7 c)(hp:zx1 g lb l p S w)(hl:l.length≤281474976710656)(hB:B≤w.heap.size)
  (hsl:Sl w B 7 (.slice A l.length c) l.length l.flatten) :
  Calls prog 149 #[.slice A l.length c,.func (Fn.func g) #[] lb] w fun e w'=>e=.returned (.int .i64 (z3c p l))∧Fr [] w w':=by
 have HS:=hid hsl
 have HP:=hid hp
 have HSH:=hid hsh
 have H7:=hid (fun c hc=>(hsh c hc).len)
 clear hsl hp hsh
 go_enter Tryz.func149,Tryz.ntmps149
 go_wp2
 go_loopg [5,8] l.length (fun g u i wr=>∃(k:Nat),g=l.length - k∧k≤l.length∧i=.int .i64 k∧(∀j t,j < k→l[j]? = some t→p t=false)∧Fr [] w wr)
 case atStart=>exact⟨0,rfl,Nat.zero_le _,rfl,fun j t hj=>absurd hj (Nat.not_lt_zero _),Fr.refl _ _⟩
 case round=>
  obtain⟨k,rfl,hk,rfl,hno,hf⟩:=hrel
  by_cases hlt:k < l.length
  ·obtain⟨b,off,rfl,hb,hc,hm,hcell⟩:=HS.out.at_ (by omega)
   obtain⟨s,hs⟩:∃s,l[k]? = some s:=⟨_,List.getElem?_eq_getElem hlt⟩
   have hsm:=List.mem_of_getElem? hs
   obtain⟨sk,sn,st,A1,n1,d1,A2,n2,d2,A3,n3,d3,su,rfl⟩:=HSH.out s hsm
   have hc0:wr.cell? ⟨b,off+k * 7,none⟩=some (.string sk):=hf.cell (show w.cell? ⟨b,off+k * 7,none⟩=some (.string sk) from by exact hcell (k * 7) _ (z4q 7 l k 0 _ H7.out hs (by decide))) (by simp)
   have hc1:wr.cell? ⟨b,off+k * 7+1,none⟩=some (.int .i64 sn):=hf.cell (show w.cell? ⟨b,off+k * 7+1,none⟩=some (.int .i64 sn) from by rw[Nat.add_assoc];exact hcell (k * 7+1) _ (z4q 7 l k 1 _ H7.out hs (by decide))) (by simp)
   have hc2:wr.cell? ⟨b,off+k * 7+2,none⟩=some (.string st):=hf.cell (show w.cell? ⟨b,off+k * 7+2,none⟩=some (.string st) from by rw[Nat.add_assoc];exact hcell (k * 7+2) _ (z4q 7 l k 2 _ H7.out hs (by decide))) (by simp)
   have hc3:wr.cell? ⟨b,off+k * 7+3,none⟩=some (.slice A1 n1 d1):=hf.cell (show w.cell? ⟨b,off+k * 7+3,none⟩=some (.slice A1 n1 d1) from by rw[Nat.add_assoc];exact hcell (k * 7+3) _ (z4q 7 l k 3 _ H7.out hs (by decide))) (by simp)
   have hc4:wr.cell? ⟨b,off+k * 7+4,none⟩=some (.slice A2 n2 d2):=hf.cell (show w.cell? ⟨b,off+k * 7+4,none⟩=some (.slice A2 n2 d2) from by rw[Nat.add_assoc];exact hcell (k * 7+4) _ (z4q 7 l k 4 _ H7.out hs (by decide))) (by simp)
   have hc5:wr.cell? ⟨b,off+k * 7+5,none⟩=some (.slice A3 n3 d3):=hf.cell (show w.cell? ⟨b,off+k * 7+5,none⟩=some (.slice A3 n3 d3) from by rw[Nat.add_assoc];exact hcell (k * 7+5) _ (z4q 7 l k 5 _ H7.out hs (by decide))) (by simp)
   have hc6:wr.cell? ⟨b,off+k * 7+6,none⟩=some (.int .i64 su):=hf.cell (show w.cell? ⟨b,off+k * 7+6,none⟩=some (.int .i64 su) from by rw[Nat.add_assoc];exact hcell (k * 7+6) _ (z4q 7 l k 6 _ H7.out hs (by decide))) (by simp)
   have L:=hid (fun W (hW:Fr [] wr W)=>HP.out W [.string sk,.int .i64 sn,.string st,.slice A1 n1 d1,.slice A2 n2 d2,.slice A3 n3 d3,.int .i64 su] hsm (hf.trans hW).up)
   have HF:=hid hf
   have F1:=hid (Fr.refl [] wr)
   by_cases hq:p [.string sk,.int .i64 sn,.string st,.slice A1 n1 d1,.slice A2 n2 d2,.slice A3 n3 d3,.int .i64 su]=true
   ·have E:=hid (z2q hno hs hq)
    rw[hq] at L
    clear hno hcell hs hq hf hsm
    go_wp2_with fail
    refine(L.out _ F1.out).mono ?_
    rintro e w1 ⟨rfl,h1⟩
    go_wp2
    go_ret
    rw[E.out]
    exact⟨rfl,HF.out.trans h1⟩
   ·have hq':p [.string sk,.int .i64 sn,.string st,.slice A1 n1 d1,.slice A2 n2 d2,.slice A3 n3 d3,.int .i64 su]=false:=by simpa using hq
    rw[hq'] at L
    have N:=hid (fun j t (hj:j < k+1) (ht:l[j]? = some t)=>(show p t=false by
     rcases Nat.lt_or_ge j k with h|h
     ·exact hno j t h ht
     ·have e:j=k:=by omega
      subst e
      rw[hs] at ht
      cases ht
      exact hq'))
    clear hno hcell hs hq hq' hf hsm
    go_wp2_with fail
    refine(L.out _ F1.out).mono ?_
    rintro e w1 ⟨rfl,h1⟩
    go_wp2
    go_roundg (l.length - (k+1))
    case measure=>omega
    case rel=>exact⟨k+1,rfl,by omega,rfl,N.out,HF.out.trans h1⟩
  ·have E:=hid (z39 (q:=p) (l:=l) (fun j t ht=>hno j t (by have:=(List.getElem?_eq_some_iff.1 ht).1;omega) ht))
   clear hno
   go_wp2
   go_ret
   rw[E.out]
   exact⟨rfl,hf⟩
def zpy(ys:List (List Value))(base:Nat)(v:Value)(w:World)(e:Ending)(w':World):Prop:=
 ∃v',e=.returned v'∧w'.ownsRow base 45 7 v' ys.length ys.flatten∧Fr (z2l v) w w'∧v'.ownBlock=v.ownBlock
theorem zx7:∀w,(zeroValue 45).run prog w=.ok (.agg #[.string ⟨#[]⟩,.int .i64 0,.string ⟨#[]⟩,.slice none 0 0,.slice none 0 0,.slice none 0 0,.int .i64 0]) w:=fun w=>by kernel_rfl
theorem zo2{p:List Value→Bool}{l d:List (List Value)}{i j:Nat}(h:d.length=l.length)(hd:∀c∈d,c∈l)(s:List Value)(hs:s∈l):∀c∈d.set i s,c∈l:=fun c hc=>by
 rcases List.mem_or_eq_of_mem_set hc with h1|rfl
 ·exact hd c h1
 ·exact hs
theorem zn6(g:Nat)(lb:Array Value)(eg:∀args w,(callFunc g args).run prog w=.ok (.enter g args) w)(p:List Value→Bool)(l:List (List Value))(base:Nat)(v:Value)(w:World)(hsh:∀c∈l,ze7 c)(hp:zx1 g lb l p (z2l v) w)(hl:l.length≤1000000)
  (h:w.ownsRow base 45 7 v l.length l.flatten) :
  Calls prog 112 #[v,.func (Fn.func g) #[] lb] w (zpy (l.filter fun x=>!p x) base v w):=by
 obtain⟨A,c,rfl,hA,hc,hm⟩:=z06 h
 have I:=hid (zsi g lb eg p _ l A c w.heap.size w hsh hp (by omega) (Nat.le_refl _) (z0t h))
 rcases z6s p l with⟨e1,e2⟩|⟨k0,s00,e1,hk0,hK⟩
 ·rw[e1] at I
  have H:=hid h
  have E2:=hid e2
  clear h e1 e2 hp hsh
  go_enter Tryz.func112,Tryz.ntmps112
  go_wp2_with fail
  refine I.out.mono ?_
  rintro e w1 ⟨rfl,h1⟩
  go_wp2
  go_ret
  rw[E2.out]
  exact⟨_,rfl,z0n H.out h1 (by simp),h1.up,rfl⟩
 ·rw[e1] at I
  obtain⟨gb,rfl⟩:∃gb,A=some ⟨gb,0,none⟩:=by
   rcases hA with rfl|⟨gb,rfl⟩
   ·exfalso
    rcases h.2 with⟨_,h0⟩|⟨g',cap',cur,h',_⟩
    ·omega
    ·cases h'
   ·exact⟨gb,rfl⟩
  have hgb:=(h.lt gb rfl)
  have H:=hid h
  have HP:=hid hp
  have HK:=hid hK
  have HSH:=hid hsh
  have H7:=hid (fun c hc=>(hsh c hc).len)
  have hne1:((k0:Int)==-1)=false:=beq_eq_false_iff_ne.2 (by omega)
  unfold maxLen at hm
  clear h hp hK e1 hA hsh
  go_enter Tryz.func112,Tryz.ntmps112
  go_wp2_with fail
  refine I.out.mono ?_
  rintro e w1 ⟨rfl,h1⟩
  have HF1:=hid h1
  clear h1
  go_wp2
  go_loopg [5,6] (l.length - (k0+1)) (fun gg s5 s6 wr=>∃(i j:Nat) (d:List (List Value)),gg=l.length - j∧s5=.int .i64 i∧s6=.int .i64 j∧Kept p l d i j∧(∀c∈d,c∈l)∧wr.ownsRow base 45 7 (.slice (some ⟨gb,0,none⟩) l.length c) l.length d.flatten∧Fr [gb] w wr)
  case atStart=>exact⟨k0,k0+1,l,rfl,rfl,by go_num,HK.out,fun c h=>h,z0n H.out HF1.out (by simp),HF1.out.up⟩
  case round=>
   obtain⟨i,j,d,rfl,rfl,rfl,hK,hdm,hO,hF⟩:=hrel
   have HK:=hid hK
   have HO:=hid hO
   have HF:=hid hF
   have HDM:=hid hdm
   have HD7:=hid (fun c hc=>H7.out c (hdm c hc))
   have hij:=hK.lt
   have hjl:=hK.le
   have hdl:=hK.len
   have hsz:=hF.size
   clear I HF1 hdm
   by_cases hlt:j < l.length
   ·obtain⟨s,hs⟩:∃s,l[j]? = some s:=⟨_,List.getElem?_eq_getElem hlt⟩
    have hd:d[j]? = some s:=(hK.behind j (Nat.le_refl _)).trans hs
    have hsm:=List.mem_of_getElem? hs
    obtain⟨sk,sn,st,A1,n1,d1,A2,n2,d2,A3,n3,d3,su,rfl⟩:=HSH.out s hsm
    have L:=hid (fun W (hW:Fr [] wr W)=>HP.out W [.string sk,.int .i64 sn,.string st,.slice A1 n1 d1,.slice A2 n2 d2,.slice A3 n3 d3,.int .i64 su] hsm (hF.trans hW.up))
    have HS:=hid hs
    have HSM:=hid hsm
    have x0:wr.cell? ⟨gb,j * 7,none⟩=some (.string sk):=(hO.cellAt (j * 7) (by omega)).trans (z4q 7 d j 0 _ HD7.out hd (by decide))
    have x1:wr.cell? ⟨gb,j * 7+1,none⟩=some (.int .i64 sn):=(hO.cellAt (j * 7+1) (by omega)).trans (z4q 7 d j 1 _ HD7.out hd (by decide))
    have x2:wr.cell? ⟨gb,j * 7+2,none⟩=some (.string st):=(hO.cellAt (j * 7+2) (by omega)).trans (z4q 7 d j 2 _ HD7.out hd (by decide))
    have x3:wr.cell? ⟨gb,j * 7+3,none⟩=some (.slice A1 n1 d1):=(hO.cellAt (j * 7+3) (by omega)).trans (z4q 7 d j 3 _ HD7.out hd (by decide))
    have x4:wr.cell? ⟨gb,j * 7+4,none⟩=some (.slice A2 n2 d2):=(hO.cellAt (j * 7+4) (by omega)).trans (z4q 7 d j 4 _ HD7.out hd (by decide))
    have x5:wr.cell? ⟨gb,j * 7+5,none⟩=some (.slice A3 n3 d3):=(hO.cellAt (j * 7+5) (by omega)).trans (z4q 7 d j 5 _ HD7.out hd (by decide))
    have x6:wr.cell? ⟨gb,j * 7+6,none⟩=some (.int .i64 su):=(hO.cellAt (j * 7+6) (by omega)).trans (z4q 7 d j 6 _ HD7.out hd (by decide))
    have F1:=hid ((Fr.refl [] wr).alloc (.cells #[.string sk,.int .i64 sn,.string st,.slice A1 n1 d1,.slice A2 n2 d2,.slice A3 n3 d3,.int .i64 su] 45))
    have V1:=hid (Whole.new wr 45 [.string sk,.int .i64 sn,.string st,.slice A1 n1 d1,.slice A2 n2 d2,.slice A3 n3 d3,.int .i64 su])
    clear hK hO hF hs hd hsm
    by_cases hq:p [.string sk,.int .i64 sn,.string st,.slice A1 n1 d1,.slice A2 n2 d2,.slice A3 n3 d3,.int .i64 su]=true
    ·rw[hq] at L
     have HQ:=hid hq
     clear hq
     go_wp2_with fail
     refine(L.out _ F1.out).mono ?_
     rintro e w2 ⟨rfl,h2⟩
     have f2:=hid (F1.out.trans h2)
     clear h2
     go_wp2
     go_roundg (l.length - (j+1))
     case measure=>omega
     case rel=>exact⟨i,j+1,d,rfl,rfl,by go_num,HK.out.skip HS.out HQ.out,HDM.out,z0n HO.out f2.out (by simp),HF.out.trans f2.out.up⟩
    ·have hq':p [.string sk,.int .i64 sn,.string st,.slice A1 n1 d1,.slice A2 n2 d2,.slice A3 n3 d3,.int .i64 su]=false:=by simpa using hq
     rw[hq'] at L
     have HQ:=hid hq'
     clear hq hq'
     obtain⟨s',hs'⟩:∃s',d[i]? = some s':=⟨_,List.getElem?_eq_getElem (by omega)⟩
     obtain⟨b0,b1,b2,b3,b4,b5,b6,rfl⟩:=zw0 (HD7.out s' (List.mem_of_getElem? hs'))
     have HS':=hid hs'
     clear hs'
     go_wp2_with fail
     refine(L.out _ F1.out).mono ?_
     rintro e w2 ⟨rfl,h2⟩
     have f2:=hid (F1.out.trans h2)
     have HO2:=hid (z0n HO.out f2.out (by simp))
     have V2:=V1.out.fr h2 (by simp)
     have v0:w2.cell? ⟨wr.heap.size,0,none⟩=some (.string sk):=V2.cell 0
     have y0:w2.cell? ⟨gb,i * 7,none⟩=some b0:=(HO2.out.cellAt (i * 7) (by omega)).trans (z4q 7 d i 0 _ HD7.out HS'.out (by decide))
     have z0:w2.frozen? ⟨gb,i * 7,none⟩=false:=HO2.out.frozenAt _
     have v1:w2.cell? ⟨wr.heap.size,1,none⟩=some (.int .i64 sn):=V2.cell 1
     have y1:w2.cell? ⟨gb,i * 7+1,none⟩=some b1:=(HO2.out.cellAt (i * 7+1) (by omega)).trans (z4q 7 d i 1 _ HD7.out HS'.out (by decide))
     have z1:w2.frozen? ⟨gb,i * 7+1,none⟩=false:=HO2.out.frozenAt _
     have v2:w2.cell? ⟨wr.heap.size,2,none⟩=some (.string st):=V2.cell 2
     have y2:w2.cell? ⟨gb,i * 7+2,none⟩=some b2:=(HO2.out.cellAt (i * 7+2) (by omega)).trans (z4q 7 d i 2 _ HD7.out HS'.out (by decide))
     have z2:w2.frozen? ⟨gb,i * 7+2,none⟩=false:=HO2.out.frozenAt _
     have v3:w2.cell? ⟨wr.heap.size,3,none⟩=some (.slice A1 n1 d1):=V2.cell 3
     have y3:w2.cell? ⟨gb,i * 7+3,none⟩=some b3:=(HO2.out.cellAt (i * 7+3) (by omega)).trans (z4q 7 d i 3 _ HD7.out HS'.out (by decide))
     have z3:w2.frozen? ⟨gb,i * 7+3,none⟩=false:=HO2.out.frozenAt _
     have v4:w2.cell? ⟨wr.heap.size,4,none⟩=some (.slice A2 n2 d2):=V2.cell 4
     have y4:w2.cell? ⟨gb,i * 7+4,none⟩=some b4:=(HO2.out.cellAt (i * 7+4) (by omega)).trans (z4q 7 d i 4 _ HD7.out HS'.out (by decide))
     have z4:w2.frozen? ⟨gb,i * 7+4,none⟩=false:=HO2.out.frozenAt _
     have v5:w2.cell? ⟨wr.heap.size,5,none⟩=some (.slice A3 n3 d3):=V2.cell 5
     have y5:w2.cell? ⟨gb,i * 7+5,none⟩=some b5:=(HO2.out.cellAt (i * 7+5) (by omega)).trans (z4q 7 d i 5 _ HD7.out HS'.out (by decide))
     have z5:w2.frozen? ⟨gb,i * 7+5,none⟩=false:=HO2.out.frozenAt _
     have v6:w2.cell? ⟨wr.heap.size,6,none⟩=some (.int .i64 su):=V2.cell 6
     have y6:w2.cell? ⟨gb,i * 7+6,none⟩=some b6:=(HO2.out.cellAt (i * 7+6) (by omega)).trans (z4q 7 d i 6 _ HD7.out HS'.out (by decide))
     have z6:w2.frozen? ⟨gb,i * 7+6,none⟩=false:=HO2.out.frozenAt _
     clear V2 h2
     go_wp2
     go_roundg (l.length - (j+1))
     case measure=>omega
     case rel=>
      have o0:=HO2.out.stored (i * 7) (.string sk)
      have o1:=o0.1.stored (i * 7+1) (.int .i64 sn)
      have o2:=o1.1.stored (i * 7+2) (.string st)
      have o3:=o2.1.stored (i * 7+3) (.slice A1 n1 d1)
      have o4:=o3.1.stored (i * 7+4) (.slice A2 n2 d2)
      have o5:=o4.1.stored (i * 7+5) (.slice A3 n3 d3)
      have o6:=o5.1.stored (i * 7+6) (.int .i64 su)
      exact⟨i+1,j+1,d.set i [.string sk,.int .i64 sn,.string st,.slice A1 n1 d1,.slice A2 n2 d2,.slice A3 n3 d3,.int .i64 su],rfl,by go_num,by go_num,HK.out.keep HS.out HQ.out,zo2 (p:=p) (j:=j) hdl HDM.out _ HSM.out,by rw[zh8 (.string sk) (.int .i64 sn) (.string st) (.slice A1 n1 d1) (.slice A2 n2 d2) (.slice A3 n3 d3) (.int .i64 su) d i HD7.out (by omega)];exact o6.1,((((((((HF.out.trans f2.out.up).setCell (p:=⟨gb,i * 7,none⟩) (.inl (by simp)) _).setCell (p:=⟨gb,i * 7+1,none⟩) (.inl (by simp)) _).setCell (p:=⟨gb,i * 7+2,none⟩) (.inl (by simp)) _).setCell (p:=⟨gb,i * 7+3,none⟩) (.inl (by simp)) _).setCell (p:=⟨gb,i * 7+4,none⟩) (.inl (by simp)) _).setCell (p:=⟨gb,i * 7+5,none⟩) (.inl (by simp)) _).setCell (p:=⟨gb,i * 7+6,none⟩) (.inl (by simp)) _)⟩
   ·obtain rfl:j=l.length:=by omega
    have hdone:=hK.done
    obtain⟨cur,w0,l0,t0,hb0,_,_,hxl⟩:=z28 hO
    obtain⟨zs,hzs⟩:∃zs,zs=(Builtin.zeroCells (Value.cells (.agg #[.string ⟨#[]⟩,.int .i64 0,.string ⟨#[]⟩,.slice none 0 0,.slice none 0 0,.slice none 0 0,.int .i64 0])) (l.length - i)).toList:=⟨_,rfl⟩
    have hzl:zs.length=(l.length - i) * 7:=by rw[hzs];simp[Builtin.zeroCells,Value.cells]
    have hcl:∀ty,(Builtin.clear_ #[23] ty #[.slice (some ⟨gb,i * 7,none⟩) (l.length - i) (c - i)]).run prog wr=.ok (.tuple #[]) (wr.setCells gb (i * 7) zs):=fun ty=>by
     have:=z3j (P:=prog) wr 23 45 ty (.agg #[.string ⟨#[]⟩,.int .i64 0,.string ⟨#[]⟩,.slice none 0 0,.slice none 0 0,.slice none 0 0,.int .i64 0]) Tryz.underlying23 zx7 (by intro u hu;simp[Value.cells] at hu;rcases hu with rfl|rfl|rfl|rfl|rfl|rfl|rfl <;> rfl) gb (i * 7) (l.length - i) (c - i) (by omega) (fun t ht=>by
      exact z0k w0 (o:=i * 7) (m:=(l.length - i) * 7) (by omega) t (by simpa[Value.cells] using ht))
     rw[←hzs] at this
     exact this
    have W1:=z16 zs (i * 7) wr cur w0 (by omega)
    have O1:=z34 (cap:=c) (k:=7) (n:=i) (base:=base) W1 (by simp only[List.length_append,List.length_take,List.length_drop,l0,hzl];omega) hb0 (by omega) (by unfold maxLen;omega)
    rw[List.append_assoc,List.take_append_of_le_length (by rw[List.length_take];omega),List.take_take,Nat.min_eq_left (by omega)] at O1
    have e5:cur.take (i * 7)=(l.filter fun x=>!p x).flatten:=by
     rw[←hdone,←z7z 7 d i HD7.out,←t0,List.take_take,Nat.min_eq_left (by omega)]
    have e6:i=(l.filter fun x=>!p x).length:=by rw[←hdone,List.length_take];omega
    rw[e5] at O1
    have HO1:=hid O1
    have HE:=hid e6
    have G1:=hid (z09 (g:=gb) zs (i * 7) wr)
    have hic:i < c:=by omega
    clear hK hO hF w0 l0 t0 hb0 hxl hzs hzl W1 O1 e5 e6 hdone hdl HK HO
    go_wp2
    go_ret
    have e6:=HE.out
    refine⟨_,rfl,?_,?_,rfl⟩
    ·rw[←e6]
     exact HO1.out
    ·exact HF.out.grown G1.out (fun k hk=>by cases hk;exact .inl (by simp))
theorem zc8:(prog.info? 45).map (fun i=>(i.zero,i.size,i.bytes))=some (some (.agg #[.string ⟨#[]⟩,.int .i64 0,.string ⟨#[]⟩,.slice none 0 0,.slice none 0 0,.slice none 0 0,.int .i64 0]),7,120):=by kernel_rfl
theorem zft(e:Ent)(A1 A2 A3:Option Addr)(c1 c2 c3:Nat):∀u∈z7d e A1 c1 A2 c2 A3 c3,u.oneCell'=true:=fun u hu=>by
 simp[z7d] at hu
 rcases hu with rfl|rfl|rfl|rfl|rfl|rfl|rfl <;> rfl
theorem z2y:9≠45∧86≠45∧91≠45:=by decide
theorem z1w.snoc{w':World}{base:Nat}{v':Value}{l:List Ent}{e:Ent}{cs:List Value}{rs:List (List Value)}(hl:rs.length=l.length)(h:∀(i:Nat) (e:Ent),l[i]? = some e→∃cs:List Value,rs[i]? = some cs∧z2v w' base cs e)(he:z2v w' base cs e)(ho:w'.ownsRow base 45 7 v' (l.length+1) (rs.flatten++cs)):z1w w' base v' (l++[e]):=by
 refine⟨rs++[cs],by simp[hl],fun i x hx=>?_,by simpa using ho⟩
 rcases Nat.lt_or_ge i l.length with h1|h1
 ·rw[List.getElem?_append_left h1] at hx
  obtain⟨d,h2,h3⟩:=h i x hx
  exact⟨d,by rw[List.getElem?_append_left (by omega)];exact h2,h3⟩
 ·have:i=l.length:=by have:=(List.getElem?_eq_some_iff.1 hx).1;simp at this;omega
  subst this
  rw[List.getElem?_append_right (Nat.le_refl _),Nat.sub_self] at hx
  simp at hx
  subst hx
  exact⟨cs,by rw[List.getElem?_append_right (by omega),hl,Nat.sub_self];rfl,he⟩
def OwnS(base:Nat)(l:List Ent)(w:World)(r:Ending)(w':World):Prop:=∃u,r=.returned u∧z1w w' base u l∧Fr [] w w'
theorem z2z(l:List Ent)(v:Value)(w:World)(B:Nat)(hs:∀e∈l,e.Small)(h24:∀e∈l,e.item.list.length≤1000000∧e.item.pairs.length≤1000000∧e.item.scores.length≤1000000)(hl:l.length≤1000000)(hB:B≤w.heap.size)(h:z0v w B v l) :
  Calls prog 78 #[v] w (OwnS w.heap.size l w):=by
 obtain⟨i0,hi,hz0,hz1,hz2⟩:=info_parts zc8
 obtain⟨A,c,rfl⟩:=h.form
 have HV:=hid h
 have HS:=hid hs
 have H24:=hid h24
 clear h hs h24
 go_enter Tryz.func78,Tryz.ntmps78
 go_wp2
 go_loopg [3,8] l.length (fun g o i wr=>∃(k:Nat),g=l.length - k∧k≤l.length∧i=.int .i64 k∧z1w wr w.heap.size o (l.take k)∧Fr [] w wr)
 case atStart=>exact⟨0,rfl,Nat.zero_le _,rfl,by rw[List.take_zero];exact z1w.nil _ _,Fr.refl _ _⟩
 case round=>
  obtain⟨k,rfl,hk,rfl,hO,hf⟩:=hrel
  have HF:=hid hf
  have HO:=hid hO
  have hlt0:(l.take k).length=k:=by rw[List.length_take];omega
  obtain⟨Ao,co,hv⟩:=hO.form
  rw[hlt0] at hv
  subst hv
  clear hf hO hlt0
  by_cases hlt:k < l.length
  ·obtain⟨b,off,rfl,hb,hc,hmx,hat⟩:=HV.out.at_ (by omega)
   obtain⟨e,he⟩:∃e,l[k]? = some e:=⟨_,List.getElem?_eq_getElem hlt⟩
   obtain⟨A1,A2,A3,c1,c2,c3,h7⟩:=hat k e he
   have hem:=List.mem_of_getElem? he
   have P7:=hid (h7.fr HF.out hb hB (by simp))
   obtain⟨x0,x1,x2,x3,x4,x5,x6,-⟩:=P7.out
   have ET:=hid (show l.take (k+1)=l.take k++[e] from by rw[List.take_add_one,he];rfl)
   have LT:=hid (show(l.take k).length=k from by rw[List.length_take];omega)
   have V1:=hid (Whole.new wr 45 [.string e.key,.int .i64 e.item.kind,.string e.item.text,.slice A1 e.item.list.length c1,.slice A2 e.item.pairs.length c2,.slice A3 e.item.scores.length c3,.int .i64 e.til])
   have F1:=hid ((Fr.refl [] wr).alloc (.cells #[.string e.key,.int .i64 e.item.kind,.string e.item.text,.slice A1 e.item.list.length c1,.slice A2 e.item.pairs.length c2,.slice A3 e.item.scores.length c3,.int .i64 e.til] 45))
   obtain⟨n1,n2,n3⟩:=H24.out e hem
   have OW:=hid (z8j e.item _ _ B (HS.out e hem).item n1 n2 n3 (Nat.le_trans hB (Nat.le_trans HF.out.size F1.out.size)) ((P7.out.ent.fr F1.out (Nat.le_trans hB HF.out.size) (by simp)).item))
   clear hat h7 he hem n1 n2 n3
   go_wp2_with fail
   refine OW.out.mono ?_
   rintro e2 w2 ⟨u,rfl,hi2,f2⟩
   have V2:=hid (V1.out.fr f2 (by simp))
   have G2:=hid (F1.out.trans f2)
   have HI2:=hid hi2
   obtain⟨P1,p1,P2,p2,P3,p3,rfl⟩:=hi2.form
   have hzw2:=V2.out.lt
   clear hi2 f2 x0 x1 x2 x3 x4 x5 x6
   obtain⟨y0,y1,y2,y3,y4,y5,y6⟩:=seven V2.out
   obtain⟨z0,z1,z2,z3,z4,z5,z6⟩:=z3p V2.out
   obtain⟨W3,hW3⟩:∃W3,W3=((((w2.setCell ⟨wr.heap.size,1,none⟩ (.int .i64 e.item.kind)).setCell ⟨wr.heap.size,2,none⟩ (.string e.item.text)).setCell ⟨wr.heap.size,3,none⟩ (.slice P1 e.item.list.length p1)).setCell ⟨wr.heap.size,4,none⟩ (.slice P2 e.item.pairs.length p2)).setCell ⟨wr.heap.size,5,none⟩ (.slice P3 e.item.scores.length p3):=⟨_,rfl⟩
   have G3:=hid (show Fr [] wr W3 from by
    rw[hW3]
    exact((((G2.out.setCell (p:=⟨wr.heap.size,1,none⟩) (.inr (Nat.le_refl _)) _).setCell (p:=⟨wr.heap.size,2,none⟩) (.inr (Nat.le_refl _)) _).setCell (p:=⟨wr.heap.size,3,none⟩) (.inr (Nat.le_refl _)) _).setCell (p:=⟨wr.heap.size,4,none⟩) (.inr (Nat.le_refl _)) _).setCell (p:=⟨wr.heap.size,5,none⟩) (.inr (Nat.le_refl _)) _)
   have V3:=hid (show Whole W3 wr.heap.size 45 [.string e.key,.int .i64 e.item.kind,.string e.item.text,.slice P1 e.item.list.length p1,.slice P2 e.item.pairs.length p2,.slice P3 e.item.scores.length p3,.int .i64 e.til] from by
    rw[hW3]
    exact((((V2.out.set_ 1 _).set_ 2 _).set_ 3 _).set_ 4 _).set_ 5 _)
   have HI3:=hid (show z2v W3 w.heap.size (z7d e P1 p1 P2 p2 P3 p3) e from by
    rw[hW3]
    obtain⟨L1,L2,L3,hv,o1,o2,o3⟩:=HI2.out
    cases hv
    have hbz:wr.heap.size < (wr.alloc (.cells #[.string e.key,.int .i64 e.item.kind,.string e.item.text,.slice A1 e.item.list.length c1,.slice A2 e.item.pairs.length c2,.slice A3 e.item.scores.length c3,.int .i64 e.til] 45)).heap.size:=by simp
    have hwz:=HF.out.size
    exact⟨_,_,_,_,_,_,rfl,z1d (z0x (z0x (z0x (z0x (z0x o1 hbz _) hbz _) hbz _) hbz _) hbz _) (by omega),z1d (z0x (z0x (z0x (z0x (z0x o2 hbz _) hbz _) hbz _) hbz _) hbz _) (by omega),z1d (z0x (z0x (z0x (z0x (z0x o3 hbz _) hbz _) hbz _) hbz _) hbz _) (by omega)⟩)
   have HO3:=hid (HO.out.fr G3.out)
   have HW3:=hid hW3
   clear hW3
   go_upto_region 6 with fail
   rw[←HW3.out]
   clear HW3 y0 y1 y2 y3 y4 y5 y6 z0 z1 z2 z3 z4 z5 z6
   obtain⟨y0,y1,y2,y3,y4,y5,y6⟩:=seven V3.out
   obtain⟨rs,hr1,hr2,hr3⟩:=HO3.out
   have HR3:=hid (show W3.ownsRow w.heap.size 45 7 (.slice Ao k co) k rs.flatten from by have:=hr3;rw[LT.out] at this;exact this)
   have HR1:=hid hr1
   have HR2:=hid hr2
   have hzz:w.heap.size≤W3.heap.size:=Nat.le_trans HF.out.size G3.out.size
   have hO1:=hid (z0t (World.ownsRow_lit (base:=W3.heap.size) (e:=45) (size:=7) W3 #[.string e.key,.int .i64 e.item.kind,.string e.item.text,.slice P1 e.item.list.length p1,.slice P2 e.item.pairs.length p2,.slice P3 e.item.scores.length p3,.int .i64 e.til] 1 (Nat.le_refl _) (by decide) rfl))
   clear hr1 hr2 hr3
   go_wp2_with (at_builtin;refine z0i _ rfl _ _ 23 rfl w.heap.size 45 i0 _ 7 120 Tryz.underlying23 hi hz0 hz1 hz2 rfl (by decide) _ _ _ rfl (HR3.out.alloc _) _ _ 1 _ rfl hO1.out (zft e P1 P2 P3 p1 p2 p3) ?c1 ?c2 ?c3 ?_)
   case c1=>unfold maxLen;omega
   case c2=>omega
   case c3=>first|omega|(simp;omega)
   intro v' w5 hown hgrow hat5
   have HO5:=hid hown
   have HG5:=hid hgrow
   clear hown hgrow hat5
   have F5:=hid (HF.out.trans (G3.out.alloc (.cells #[.string e.key,.int .i64 e.item.kind,.string e.item.text,.slice P1 e.item.list.length p1,.slice P2 e.item.pairs.length p2,.slice P3 e.item.scores.length p3,.int .i64 e.til] 45)))
   have HE:=hid (show z1w w5 w.heap.size v' (l.take (k+1)) from by
    rw[ET.out]
    have ff:=z47 HG5.out
    have oa:=HR3.out.alloc (.cells #[.string e.key,.int .i64 e.item.kind,.string e.item.text,.slice P1 e.item.list.length p1,.slice P2 e.item.pairs.length p2,.slice P3 e.item.scores.length p3,.int .i64 e.til] 45)
    refine z1w.snoc HR1.out (fun i x hx=>?_) ((HI3.out.fr ((Fr.refl [] W3).alloc _)).row oa z2y ff) (by rw[LT.out];exact HO5.out)
    obtain⟨d,h3,h4⟩:=HR2.out i x hx
    exact⟨d,h3,(h4.fr ((Fr.refl [] W3).alloc _)).row oa z2y ff⟩)
   have F6:=hid (F5.out.grown HG5.out (fun j hj=>.inr (HR3.out.lt j hj).1))
   go_wp2
   go_roundg (l.length - (k+1))
   case measure=>omega
   case rel=>exact⟨k+1,rfl,by omega,by go_num,HE.out,F6.out⟩
  ·obtain rfl:k=l.length:=by omega
   rw[List.take_length] at HO
   go_wp2
   go_ret
   exact⟨_,rfl,HO.out,HF.out⟩
section
variable {P:Program}
theorem z2d(w:World)(dT sT ty elem:TypeId)(i:TypeInfo)(k b o dLen dCap:Nat)(a:Addr)(sLen sCap m:Nat)(cs:List Value)
  (hu:P.underlying dT=some (.slice elem)) (hi:P.info? elem=some i) (hs:i.size=k) (hm:Nat.min sLen dLen=m) (hn:cs.length=m * k)
  (hsrc:∀j v,cs[j]? = some v→w.cell? (a.add j)=some v) (hc:∀j,j < cs.length→(w.cell? ⟨b,o+j,none⟩).isSome=true∧w.frozen? ⟨b,o+j,none⟩=false) (h1:∀v∈cs,v.oneCell'=true) :
  (Builtin.copy_ #[dT,sT] ty #[.slice (some ⟨b,o,none⟩) dLen dCap,.slice (some a) sLen sCap]).run P w=.ok (goInt m) (w.setCells b o cs):=by
 have hl:=run_loadCells_list (P:=P) w a cs hsrc
 have hst:=run_storeCells_cells (P:=P) b o cs 0 w (by simpa using fun j hj=>(hc j hj).1) (by simpa using fun j hj=>(hc j hj).2) h1
 rw[hn] at hl
 simp[Builtin.copy_,run_underlying hu,Builtin.lenOf,Builtin.firstCells,sizeOf,typeInfo,hi,hs,hm,hl,hst]
end
section
variable {w:World} {g base e k n cap i:Nat} {xs vs:List Value}
def z12(xs vs:List Value)(o:Nat):List Value:=xs.take o++vs++xs.drop o
theorem zin(h:w.ownsRow base e k (.slice (some ⟨g,0,none⟩) n cap) n xs)(hi:i≤n)(hr:n+1≤cap)(hv:vs.length=k) :
  ∃cur0 cur,Whole w g e cur0∧cur0.length=cap * k∧Whole (w.setCells g ((i+1) * k) (xs.drop (i * k))) g e cur∧cur.length=cap * k ∧
   ((w.setCells g ((i+1) * k) (xs.drop (i * k))).setCells g (i * k) vs).ownsRow base e k (.slice (some ⟨g,0,none⟩) (n+1) cap) (n+1) (z12 xs vs (i * k)):=by
 obtain⟨cur,hw,hl,ht,hb,hn,hm,hxl⟩:=z28 h
 have hik:i * k≤n * k:=Nat.mul_le_mul_right _ hi
 have e1:(i+1) * k=i * k+k:=Nat.succ_mul i k
 have e2:(n+1) * k=n * k+k:=Nat.succ_mul n k
 have b1:(n+1) * k≤cap * k:=Nat.mul_le_mul_right _ hr
 have hdl:(xs.drop (i * k)).length=n * k - i * k:=by rw[List.length_drop,hxl]
 have W1:=z16 (xs.drop (i * k)) ((i+1) * k) w cur hw (by rw[hdl,hl,e1];omega)
 have l1:(cur.take ((i+1) * k)++xs.drop (i * k)++cur.drop ((i+1) * k+(xs.drop (i * k)).length)).length=cap * k:=by
  simp only[List.length_append,List.length_take,List.length_drop,hl] at hdl ⊢
  omega
 refine⟨cur,_,hw,hl,W1,l1,?_⟩
 have W2:=z16 vs (i * k) _ _ W1 (by rw[l1,hv];omega)
 have l2:∀c1:List Value,c1.length=cap * k→(c1.take (i * k)++vs++c1.drop (i * k+vs.length)).length=cap * k:=by
  intro c1 hc1
  simp only[List.length_append,List.length_take,List.length_drop,hv,hc1]
  omega
 have:=z34 (cap:=cap) (k:=k) (n:=n+1) (base:=base) W2 (l2 _ l1) hb hr hm
 have t1:(cur.take ((i+1) * k)).length=(i+1) * k:=by rw[List.length_take,hl];omega
 have e3:(cur.take ((i+1) * k)++xs.drop (i * k)++cur.drop ((i+1) * k+(xs.drop (i * k)).length)).take (i * k)=xs.take (i * k):=by
  rw[List.append_assoc,List.take_append_of_le_length (by omega),List.take_take,Nat.min_eq_left (by omega),←ht,List.take_take,Nat.min_eq_left (by omega)]
 have e4:(cur.take ((i+1) * k)++xs.drop (i * k)++cur.drop ((i+1) * k+(xs.drop (i * k)).length)).drop (i * k+vs.length)=xs.drop (i * k)++cur.drop ((i+1) * k+(xs.drop (i * k)).length):=by
  rw[hv,←e1,List.append_assoc,List.drop_append_of_le_length (by omega),List.drop_of_length_le (by omega),List.nil_append]
 have e5:((cur.take ((i+1) * k)++xs.drop (i * k)++cur.drop ((i+1) * k+(xs.drop (i * k)).length)).take (i * k)++vs++(cur.take ((i+1) * k)++xs.drop (i * k)++cur.drop ((i+1) * k+(xs.drop (i * k)).length)).drop (i * k+vs.length)).take ((n+1) * k)=z12 xs vs (i * k):=by
  rw[e3,e4,←List.append_assoc]
  unfold z12
  have hlen:(xs.take (i * k)++vs++xs.drop (i * k)).length=(n+1) * k:=by
   simp only[List.length_append,List.length_take,List.length_drop,hxl,hv]
   omega
  rw[List.take_append_of_le_length (by omega),List.take_of_length_le (by omega)]
 rw[e5] at this
 exact this
theorem zix{G:Nat}{zs:List Value}(hx:xs.length=n * k)(hi:i≤n)(hv:vs.length=k)(hG:n+1≤G)(hm:G≤maxLen)(hb:base≤g)(hw:Whole w g e (xs.take (i * k)++zs))(hz:(xs.take (i * k)++zs).length=G * k) :
  ∃cur,Whole (w.setCells g (i * k) vs) g e cur∧cur.length=G * k ∧
   ((w.setCells g (i * k) vs).setCells g ((i+1) * k) (xs.drop (i * k))).ownsRow base e k (.slice (some ⟨g,0,none⟩) (n+1) G) (n+1) (z12 xs vs (i * k)):=by
 have hik:i * k≤n * k:=Nat.mul_le_mul_right _ hi
 have e1:(i+1) * k=i * k+k:=Nat.succ_mul i k
 have e2:(n+1) * k=n * k+k:=Nat.succ_mul n k
 have b1:(n+1) * k≤G * k:=Nat.mul_le_mul_right _ hG
 have hdl:(xs.drop (i * k)).length=n * k - i * k:=by rw[List.length_drop,hx]
 have tl:(xs.take (i * k)).length=i * k:=by rw[List.length_take];omega
 have W1:=z16 vs (i * k) w _ hw (by rw[hz,hv];omega)
 have e3:(xs.take (i * k)++zs).take (i * k)=xs.take (i * k):=by
  rw[List.take_append_of_le_length (by omega),List.take_of_length_le (by omega)]
 rw[e3] at W1
 have l1:(xs.take (i * k)++vs++(xs.take (i * k)++zs).drop (i * k+vs.length)).length=G * k:=by
  rw[List.length_append,List.length_drop,hz,List.length_append,tl,hv];omega
 refine⟨_,W1,l1,?_⟩
 have W2:=z16 (xs.drop (i * k)) ((i+1) * k) _ _ W1 (by rw[l1,hdl];omega)
 have e4:(xs.take (i * k)++vs++(xs.take (i * k)++zs).drop (i * k+vs.length)).take ((i+1) * k)=xs.take (i * k)++vs:=by
  rw[List.take_append_of_le_length (by rw[List.length_append,tl,hv];omega),List.take_of_length_le (by rw[List.length_append,tl,hv];omega)]
 rw[e4] at W2
 have l2:∀c1:List Value,c1.length=G * k→(xs.take (i * k)++vs++xs.drop (i * k)++c1.drop ((i+1) * k+(xs.drop (i * k)).length)).length=G * k:=by
  intro c1 hc1
  simp only[List.length_append,List.length_take,List.length_drop,hv,hc1,hx]
  omega
 have:=z34 (cap:=G) (k:=k) (n:=n+1) (base:=base) W2 (l2 _ l1) hb hG hm
 have hlen:(xs.take (i * k)++vs++xs.drop (i * k)).length=(n+1) * k:=by
  simp only[List.length_append,List.length_take,List.length_drop,hx,hv]
  omega
 rw[List.take_append_of_le_length (by omega),List.take_of_length_le (by omega)] at this
 exact this
end
theorem z4x(b:Nat):∀(vs:List Value) (o:Nat) (w:World),w.drew.setCells b o vs=(w.setCells b o vs).drew
 | [],_,_=>rfl
 | v :: r,o,w=>by
  rw[World.setCells,World.setCells]
  exact z4x b r (o+1) (w.setCell ⟨b,o,none⟩ v)
theorem z42{w w1 w2:World}{r:Option Nat}{g:Nat}(h:w.grownBy w1 r)(h2:w1.grownBy w2 (some g))(hg:w.heap.size≤g):w.grownBy w2 r:=
 ⟨h2.os.trans h.os,h2.tape.trans h.tape,h2.output.trans h.output,Nat.le_trans h.size h2.size,fun j hj hne=>(h2.block j (Nat.lt_of_lt_of_le hj h.size) (by intro e;injection e with e;omega)).trans (h.block j hj hne)⟩
theorem z8y(w:World)(o:Obj)(r:Option Nat):w.grownBy (w.alloc o) r:=
 ⟨rfl,rfl,rfl,by show _≤(w.heap.push o).size;simp,fun j hj _=>Below.heap_alloc w o j hj⟩
section
variable {P:Program}
theorem zeg(w:World){o:Oper}{a:Act}{K:Act→World→Prop}{Q:Exit→Act→World→Prop}(d s:Operand)(t t':TypeId)
  (ho:o.op=.call { callee:=.builtin .copy,args:=#[d,s],argTypes:=#[t,t'] }) (v u:Value) (hd:a.eval d=v) (hs:a.eval s=u) {v':Value} {w':World}
  (hr:(Builtin.copy_ #[t,t'] o.type #[v,u]).run P w=.ok v' w') (h:K (a.put o.dst v') w'):o.wp P a w K Q:=by
 unfold Oper.wp execOp
 simp only[ho,resolve,invoke,builtin,Sem.run_bind,Sem.run_pure,Result.andThen_ok,List.map_toArray,List.map_cons,List.map_nil,hd,hs,hr]
 exact h
theorem z2t(w:World){ops:Array Oper}{rest:List Oper}{o:Oper}{a:Act}{Q:Exit→Act→World→Prop}(hgd:o.guard=none)(d s:Operand)(t t':TypeId)
  (ho:o.op=.call { callee:=.builtin .copy,args:=#[d,s],argTypes:=#[t,t'] }) (v u:Value) (hd:a.eval d=v) (hs:a.eval s=u) {v':Value} {w':World}
  (hr:(Builtin.copy_ #[t,t'] o.type #[v,u]).run P w=.ok v' w') (h:wpList P ops Q rest (a.put o.dst v') w'):wpList P ops Q (o :: rest) a w:=
 wpList_plain hgd fun _ hK=>zeg w d s t t' ho v u hd hs hr (hK _ _ h)
theorem z3t{ops:Array Oper}{o:Oper}{a:Act}{w:World}{K:Act→World→Prop}{Q:Exit→Act→World→Prop}{E:Prop}(hgd:o.guard=none)(d s:Operand)(t t':TypeId)
  (ho:o.op=.call { callee:=.builtin .copy,args:=#[d,s],argTypes:=#[t,t'] }) (v u:Value) (hd:a.eval d=v) (hs:a.eval s=u) {v':Value} {w':World}
  (hr:(Builtin.copy_ #[t,t'] o.type #[v,u]).run P w=.ok v' w') (h:K (a.put o.dst v') w') :
  if Region.wanted o (yielded ops a.tmps)=true then Oper.wp P o a w K Q else E:=by
 have hw:Region.wanted o (yielded ops a.tmps)=true:=by simp[Region.wanted,hgd]
 rw[if_pos hw]
 exact zeg w d s t t' ho v u hd hs hr h
end
section
variable {P:Program} (w:World)
theorem zmx{t t2 e ty:TypeId}(ht:P.underlying t=some (.slice e))(ht2:P.underlying t2=some (.slice e))(v x:Value):(Builtin.append_ #[t,t2] ty #[v,x]).run P w=(Builtin.append_ #[t,t] ty #[v,x]).run P w:=by
 cases v <;> simp[Builtin.append_,run_underlying ht,run_underlying ht2]
theorem zfk{o:Oper}{a:Act}{K:Act→World→Prop}{Q:Exit→Act→World→Prop}(s x:Operand)(t t2:TypeId)
  (ho:o.op=.call { callee:=.builtin .append,args:=#[s,x],argTypes:=#[t,t2] })
  (base:Nat) (e:TypeId) (i:TypeInfo) (z:Value) (size bytes:Nat) (ht:P.underlying t=some (.slice e)) (ht2:P.underlying t2=some (.slice e)) (hi:P.info? e=some i) (hz:i.zero=some z)
  (hsize:i.size=size) (hby:i.bytes=bytes) (hzs:z.cells.size=size) (hsz:0 < size)
  (v:Value) (n:Nat) (xs:List Value) (hs:a.eval s=v) (hown:w.ownsRow base e size v n xs)
  (B:Nat) (vx:Value) (m:Nat) (news:List Value) (hx:a.eval x=vx) (hr:Sl w B size vx m news) (h1:∀u∈news,u.oneCell'=true)
  (h63:n+m≤maxLen) (hbytes:(n+m) * bytes≤140737488355328) (hbase:base≤w.heap.size)
  (h:∀v' w',w'.ownsRow base e size v' (n+m) (xs++news)→w.grownBy w' v.ownBlock→(v'.ownBlock=v.ownBlock∨v'.ownBlock=some w.heap.size)→K (a.put o.dst v') w'):o.wp P a w K Q:=by
 obtain⟨v',w',hrun,h2,h3,h4⟩:=z9f (P:=P) w base t o.type e i z size bytes ht hi hz hsize hby hzs hsz v n xs hown B vx m news hr h1 h63 hbytes hbase
 rw[←zmx w ht ht2] at hrun
 unfold Oper.wp execOp
 simp only[ho,resolve,invoke,builtin,Sem.run_bind,Sem.run_pure,Result.andThen_ok,List.map_toArray,List.map_cons,List.map_nil,hs,hx,hrun]
 exact h v' w' h2 h3 h4
theorem z63{ops:Array Oper}{rest:List Oper}{o:Oper}{a:Act}{Q:Exit→Act→World→Prop}(hgd:o.guard=none)(s x:Operand)(t t2:TypeId)
  (ho:o.op=.call { callee:=.builtin .append,args:=#[s,x],argTypes:=#[t,t2] })
  (base:Nat) (e:TypeId) (i:TypeInfo) (z:Value) (size bytes:Nat) (ht:P.underlying t=some (.slice e)) (ht2:P.underlying t2=some (.slice e)) (hi:P.info? e=some i) (hz:i.zero=some z)
  (hsize:i.size=size) (hby:i.bytes=bytes) (hzs:z.cells.size=size) (hsz:0 < size)
  (v:Value) (n:Nat) (xs:List Value) (hs:a.eval s=v) (hown:w.ownsRow base e size v n xs)
  (B:Nat) (vx:Value) (m:Nat) (news:List Value) (hx:a.eval x=vx) (hr:Sl w B size vx m news) (h1:∀u∈news,u.oneCell'=true)
  (h63:n+m≤maxLen) (hbytes:(n+m) * bytes≤140737488355328) (hbase:base≤w.heap.size)
  (h:∀v' w',w'.ownsRow base e size v' (n+m) (xs++news)→w.grownBy w' v.ownBlock→(v'.ownBlock=v.ownBlock∨v'.ownBlock=some w.heap.size)→wpList P ops Q rest (a.put o.dst v') w'):wpList P ops Q (o :: rest) a w:=
 wpList_plain hgd fun _ hK=>zfk w s x t t2 ho base e i z size bytes ht ht2 hi hz hsize hby hzs hsz v n xs hs hown B vx m news hx hr h1 h63 hbytes hbase fun v' w' h2 h3 h4=>hK _ _ (h v' w' h2 h3 h4)
end
end Go.Proofs.YtamgdmiopinidaaGreatDoor
