/- Contracts; no condition but each theorem's own. -/
import Derived.Test.YtmalkppcahogjaaGreatDoorSlR4
import Derived.Laws.NewBlocks
import Derived.Lib.Overlaps
set_option linter.unusedVariables false
set_option linter.unusedSimpArgs false
set_option maxHeartbeats 8000000
set_option maxRecDepth 100000
namespace Go.Proofs.YtmalkppcahogjaaGreatDoor
open Lib (hid)
open Go.Proofs.Tryz (prog)
open Go.RowKit
theorem zwz{α:Type}:∀ {c:List α},c.length=7→∃a0 a1 a2 a3 a4 a5 a6,c=[a0,a1,a2,a3,a4,a5,a6]
 | [a0,a1,a2,a3,a4,a5,a6],_=>⟨a0,a1,a2,a3,a4,a5,a6,rfl⟩
theorem zjb(s0 s1 s2 s3 s4 s5 s6:Value):∀(d:List (List Value)) (i:Nat),(∀c∈d,c.length=7)→i < d.length→(d.set i [s0,s1,s2,s3,s4,s5,s6]).flatten=(((((((d.flatten.set (i * 7) s0).set (i * 7+1) s1).set (i * 7+2) s2).set (i * 7+3) s3).set (i * 7+4) s4).set (i * 7+5) s5).set (i * 7+6) s6)
 | [],i,_,h=>absurd h (by simp)
 | c :: d,0,hc,_=>by
  obtain⟨a0,a1,a2,a3,a4,a5,a6,rfl⟩:=zwz (hc c (by simp));rfl
 | c :: d,i+1,hc,h=>by
  obtain⟨a0,a1,a2,a3,a4,a5,a6,rfl⟩:=zwz (hc c (by simp));have e:∀k,(i+1) * 7+k=i * 7+k+7:=fun k=>by omega
  have e0:(i+1) * 7=i * 7+7:=by omega
  rw[List.set_cons_succ,List.flatten_cons,zjb s0 s1 s2 s3 s4 s5 s6 d i (fun c h=>hc c (by simp[h])) (by simpa using h),List.flatten_cons,e0];simp only[show ∀k,i * 7+7+k=i * 7+k+7 from fun k=>by omega];rfl
def zfb(c:List Value):Prop:=∃sk sn st A1 n1 d1 A2 n2 d2 A3 n3 d3 su,c=[.string sk,.int .i64 sn,.string st,.slice A1 n1 d1,.slice A2 n2 d2,.slice A3 n3 d3,.int .i64 su]
theorem zfb.len{c:List Value}(h:zfb c):c.length=7:=by obtain⟨_,_,_,_,_,_,_,_,_,_,_,_,_,rfl⟩:=h;rfl
def q0r(g:Nat)(lb:Array Value)(l:List (List Value))(p:List Value→Bool)(S:List Nat)(w:World):Prop:=
 ∀W (x:List Value),x∈l→Fr S w W→Calls prog g (#[.agg x.toArray]++lb) W fun e w'=>e=.returned (.bool (p x))∧Fr [] W w'
theorem ztm(g:Nat)(lb:Array Value)(eg:∀args w,(callFunc g args).run prog w=.ok (.enter g args) w)(p:List Value→Bool)(S:List Nat)(l:List (List Value))(A:Option Addr)(c B:Nat)(w:World)(hsh:∀c∈l,zfb c)(hp:q0r g lb l p S w)(hl:l.length≤281474976710656)(hB:B≤w.heap.size)
  (hsl:Sl w B 7 (.slice A l.length c) l.length l.flatten):
  Calls prog 290 #[.slice A l.length c,.func (Fn.func g) #[] lb] w fun e w'=>e=.returned (.int .i64 (z34 p l))∧Fr [] w w':=by
 have HS:=hid hsl;have HP:=hid hp;have HSH:=hid hsh;have H7:=hid (fun c hc=>(hsh c hc).len);clear hsl hp hsh;go_enter Tryz.func290,Tryz.ntmps290;go_wp2;go_loopg [5,8] l.length (fun g u i wr=>∃(k:Nat),g=l.length - k∧k≤l.length∧i=.int .i64 k∧(∀j t,j < k→l[j]? = some t→p t=false)∧Fr [] w wr)
 case atStart=>exact⟨0,rfl,Nat.zero_le _,rfl,fun j t hj=>absurd hj (Nat.not_lt_zero _),Fr.refl _ _⟩
 case round=>
  obtain⟨k,rfl,hk,rfl,hno,hf⟩:=hrel;by_cases hlt:k < l.length
  ·obtain⟨b,off,rfl,hb,hc,hm,hcell⟩:=HS.out.at_ (by omega);obtain⟨s,hs⟩:∃s,l[k]? = some s:=⟨_,List.getElem?_eq_getElem hlt⟩;have hsm:=List.mem_of_getElem? hs;obtain⟨sk,sn,st,A1,n1,d1,A2,n2,d2,A3,n3,d3,su,rfl⟩:=HSH.out s hsm;have hc0:wr.cell? ⟨b,off+k * 7,none⟩=some (.string sk):=hf.cell (show w.cell? ⟨b,off+k * 7,none⟩=some (.string sk) from by exact hcell (k * 7) _ (z4m 7 l k 0 _ H7.out hs (by decide))) (by simp);have hc1:wr.cell? ⟨b,off+k * 7+1,none⟩=some (.int .i64 sn):=hf.cell (show w.cell? ⟨b,off+k * 7+1,none⟩=some (.int .i64 sn) from by rw[Nat.add_assoc];exact hcell (k * 7+1) _ (z4m 7 l k 1 _ H7.out hs (by decide))) (by simp);have hc2:wr.cell? ⟨b,off+k * 7+2,none⟩=some (.string st):=hf.cell (show w.cell? ⟨b,off+k * 7+2,none⟩=some (.string st) from by rw[Nat.add_assoc];exact hcell (k * 7+2) _ (z4m 7 l k 2 _ H7.out hs (by decide))) (by simp);have hc3:wr.cell? ⟨b,off+k * 7+3,none⟩=some (.slice A1 n1 d1):=hf.cell (show w.cell? ⟨b,off+k * 7+3,none⟩=some (.slice A1 n1 d1) from by rw[Nat.add_assoc];exact hcell (k * 7+3) _ (z4m 7 l k 3 _ H7.out hs (by decide))) (by simp);have hc4:wr.cell? ⟨b,off+k * 7+4,none⟩=some (.slice A2 n2 d2):=hf.cell (show w.cell? ⟨b,off+k * 7+4,none⟩=some (.slice A2 n2 d2) from by rw[Nat.add_assoc];exact hcell (k * 7+4) _ (z4m 7 l k 4 _ H7.out hs (by decide))) (by simp);have hc5:wr.cell? ⟨b,off+k * 7+5,none⟩=some (.slice A3 n3 d3):=hf.cell (show w.cell? ⟨b,off+k * 7+5,none⟩=some (.slice A3 n3 d3) from by rw[Nat.add_assoc];exact hcell (k * 7+5) _ (z4m 7 l k 5 _ H7.out hs (by decide))) (by simp);have hc6:wr.cell? ⟨b,off+k * 7+6,none⟩=some (.int .i64 su):=hf.cell (show w.cell? ⟨b,off+k * 7+6,none⟩=some (.int .i64 su) from by rw[Nat.add_assoc];exact hcell (k * 7+6) _ (z4m 7 l k 6 _ H7.out hs (by decide))) (by simp);have L:=hid (fun W (hW:Fr [] wr W)=>HP.out W [.string sk,.int .i64 sn,.string st,.slice A1 n1 d1,.slice A2 n2 d2,.slice A3 n3 d3,.int .i64 su] hsm (hf.trans hW).up);have HF:=hid hf;have F1:=hid (Fr.refl [] wr);by_cases hq:p [.string sk,.int .i64 sn,.string st,.slice A1 n1 d1,.slice A2 n2 d2,.slice A3 n3 d3,.int .i64 su]=true
   ·have E:=hid (z2i hno hs hq);rw[hq] at L;clear hno hcell hs hq hf hsm;go_wp2_with fail;refine(L.out _ F1.out).mono ?_;rintro e w1 ⟨rfl,h1⟩;go_wp2;go_ret;rw[E.out];exact⟨rfl,HF.out.trans h1⟩
   ·have hq':p [.string sk,.int .i64 sn,.string st,.slice A1 n1 d1,.slice A2 n2 d2,.slice A3 n3 d3,.int .i64 su]=false:=by simpa using hq
    rw[hq'] at L
    have N:=hid (fun j t (hj:j < k+1) (ht:l[j]? = some t)=>(show p t=false by
     rcases Nat.lt_or_ge j k with h|h
     ·exact hno j t h ht
     ·have e:j=k:=by omega
      subst e;rw[hs] at ht;cases ht;exact hq'))
    clear hno hcell hs hq hq' hf hsm;go_wp2_with fail;refine(L.out _ F1.out).mono ?_;rintro e w1 ⟨rfl,h1⟩;go_wp2;go_roundg (l.length - (k+1))
    case measure=>omega
    case rel=>exact⟨k+1,rfl,by omega,rfl,N.out,HF.out.trans h1⟩
  ·have E:=hid (z33 (q:=p) (l:=l) (fun j t ht=>hno j t (by have:=(List.getElem?_eq_some_iff.1 ht).1;omega) ht));clear hno;go_wp2;go_ret;rw[E.out];exact⟨rfl,hf⟩
def zqf(ys:List (List Value))(base:Nat)(v:Value)(w:World)(e:Ending)(w':World):Prop:=
 ∃v',e=.returned v'∧w'.ownsRow base 81 7 v' ys.length ys.flatten∧Fr (z2f v) w w'∧v'.ownBlock=v.ownBlock
theorem zzo:∀w,(zeroValue 81).run prog w=.ok (.agg #[.string ⟨#[]⟩,.int .i64 0,.string ⟨#[]⟩,.slice none 0 0,.slice none 0 0,.slice none 0 0,.int .i64 0]) w:=fun w=>by kernel_rfl
theorem zsd{p:List Value→Bool}{l d:List (List Value)}{i j:Nat}(h:d.length=l.length)(hd:∀c∈d,c∈l)(s:List Value)(hs:s∈l):∀c∈d.set i s,c∈l:=fun c hc=>by
 rcases List.mem_or_eq_of_mem_set hc with h1|rfl
 ·exact hd c h1
 ·exact hs
theorem zsj(g:Nat)(lb:Array Value)(eg:∀args w,(callFunc g args).run prog w=.ok (.enter g args) w)(p:List Value→Bool)(l:List (List Value))(base:Nat)(v:Value)(w:World)(hsh:∀c∈l,zfb c)(hp:q0r g lb l p (z2f v) w)(hl:l.length≤1000000)
  (h:w.ownsRow base 81 7 v l.length l.flatten):
  Calls prog 216 #[v,.func (Fn.func g) #[] lb] w (zqf (l.filter fun x=>!p x) base v w):=by
 obtain⟨A,c,rfl,hA,hc,hm⟩:=z05 h;have I:=hid (ztm g lb eg p _ l A c w.heap.size w hsh hp (by omega) (Nat.le_refl _) (z0s h));rcases z6p p l with⟨e1,e2⟩|⟨k0,s00,e1,hk0,hK⟩
 ·rw[e1] at I;have H:=hid h;have E2:=hid e2;clear h e1 e2 hp hsh;go_enter Tryz.func216,Tryz.ntmps216;go_wp2_with fail;refine I.out.mono ?_;rintro e w1 ⟨rfl,h1⟩;go_wp2;go_ret;rw[E2.out];exact⟨_,rfl,z0p H.out h1 (by simp),h1.up,rfl⟩
 ·rw[e1] at I
  obtain⟨gb,rfl⟩:∃gb,A=some ⟨gb,0,none⟩:=by
   rcases hA with rfl|⟨gb,rfl⟩
   ·exfalso;rcases h.2 with⟨_,h0⟩|⟨g',cap',cur,h',_⟩
    ·omega
    ·cases h'
   ·exact⟨gb,rfl⟩
  have hgb:=(h.lt gb rfl);have H:=hid h;have HP:=hid hp;have HK:=hid hK;have HSH:=hid hsh;have H7:=hid (fun c hc=>(hsh c hc).len);have hne1:((k0:Int)==-1)=false:=beq_eq_false_iff_ne.2 (by omega);unfold maxLen at hm;clear h hp hK e1 hA hsh;go_enter Tryz.func216,Tryz.ntmps216;go_wp2_with fail;refine I.out.mono ?_;rintro e w1 ⟨rfl,h1⟩;have HF1:=hid h1;clear h1;go_wp2;go_loopg [5,6] (l.length - (k0+1)) (fun gg s5 s6 wr=>∃(i j:Nat) (d:List (List Value)),gg=l.length - j∧s5=.int .i64 i∧s6=.int .i64 j∧Kept p l d i j∧(∀c∈d,c∈l)∧wr.ownsRow base 81 7 (.slice (some ⟨gb,0,none⟩) l.length c) l.length d.flatten∧Fr [gb] w wr)
  case atStart=>exact⟨k0,k0+1,l,rfl,rfl,by go_num,HK.out,fun c h=>h,z0p H.out HF1.out (by simp),HF1.out.up⟩
  case round=>
   obtain⟨i,j,d,rfl,rfl,rfl,hK,hdm,hO,hF⟩:=hrel;have HK:=hid hK;have HO:=hid hO;have HF:=hid hF;have HDM:=hid hdm;have HD7:=hid (fun c hc=>H7.out c (hdm c hc));have hij:=hK.lt;have hjl:=hK.le;have hdl:=hK.len;have hsz:=hF.size;clear I HF1 hdm;by_cases hlt:j < l.length
   ·obtain⟨s,hs⟩:∃s,l[j]? = some s:=⟨_,List.getElem?_eq_getElem hlt⟩;have hd:d[j]? = some s:=(hK.behind j (Nat.le_refl _)).trans hs;have hsm:=List.mem_of_getElem? hs;obtain⟨sk,sn,st,A1,n1,d1,A2,n2,d2,A3,n3,d3,su,rfl⟩:=HSH.out s hsm;have L:=hid (fun W (hW:Fr [] wr W)=>HP.out W [.string sk,.int .i64 sn,.string st,.slice A1 n1 d1,.slice A2 n2 d2,.slice A3 n3 d3,.int .i64 su] hsm (hF.trans hW.up));have HS:=hid hs;have HSM:=hid hsm;have x0:wr.cell? ⟨gb,j * 7,none⟩=some (.string sk):=(hO.cellAt (j * 7) (by omega)).trans (z4m 7 d j 0 _ HD7.out hd (by decide));have x1:wr.cell? ⟨gb,j * 7+1,none⟩=some (.int .i64 sn):=(hO.cellAt (j * 7+1) (by omega)).trans (z4m 7 d j 1 _ HD7.out hd (by decide));have x2:wr.cell? ⟨gb,j * 7+2,none⟩=some (.string st):=(hO.cellAt (j * 7+2) (by omega)).trans (z4m 7 d j 2 _ HD7.out hd (by decide));have x3:wr.cell? ⟨gb,j * 7+3,none⟩=some (.slice A1 n1 d1):=(hO.cellAt (j * 7+3) (by omega)).trans (z4m 7 d j 3 _ HD7.out hd (by decide));have x4:wr.cell? ⟨gb,j * 7+4,none⟩=some (.slice A2 n2 d2):=(hO.cellAt (j * 7+4) (by omega)).trans (z4m 7 d j 4 _ HD7.out hd (by decide));have x5:wr.cell? ⟨gb,j * 7+5,none⟩=some (.slice A3 n3 d3):=(hO.cellAt (j * 7+5) (by omega)).trans (z4m 7 d j 5 _ HD7.out hd (by decide));have x6:wr.cell? ⟨gb,j * 7+6,none⟩=some (.int .i64 su):=(hO.cellAt (j * 7+6) (by omega)).trans (z4m 7 d j 6 _ HD7.out hd (by decide));have F1:=hid ((Fr.refl [] wr).alloc (.cells #[.string sk,.int .i64 sn,.string st,.slice A1 n1 d1,.slice A2 n2 d2,.slice A3 n3 d3,.int .i64 su] 81));have V1:=hid (Whole.new wr 81 [.string sk,.int .i64 sn,.string st,.slice A1 n1 d1,.slice A2 n2 d2,.slice A3 n3 d3,.int .i64 su]);clear hK hO hF hs hd hsm;by_cases hq:p [.string sk,.int .i64 sn,.string st,.slice A1 n1 d1,.slice A2 n2 d2,.slice A3 n3 d3,.int .i64 su]=true
    ·rw[hq] at L;have HQ:=hid hq;clear hq;go_wp2_with fail;refine(L.out _ F1.out).mono ?_;rintro e w2 ⟨rfl,h2⟩;have f2:=hid (F1.out.trans h2);clear h2;go_wp2;go_roundg (l.length - (j+1))
     case measure=>omega
     case rel=>exact⟨i,j+1,d,rfl,rfl,by go_num,HK.out.skip HS.out HQ.out,HDM.out,z0p HO.out f2.out (by simp),HF.out.trans f2.out.up⟩
    ·have hq':p [.string sk,.int .i64 sn,.string st,.slice A1 n1 d1,.slice A2 n2 d2,.slice A3 n3 d3,.int .i64 su]=false:=by simpa using hq
     rw[hq'] at L;have HQ:=hid hq';clear hq hq';obtain⟨s',hs'⟩:∃s',d[i]? = some s':=⟨_,List.getElem?_eq_getElem (by omega)⟩;obtain⟨b0,b1,b2,b3,b4,b5,b6,rfl⟩:=zwz (HD7.out s' (List.mem_of_getElem? hs'));have HS':=hid hs';clear hs';go_wp2_with fail;refine(L.out _ F1.out).mono ?_;rintro e w2 ⟨rfl,h2⟩;have f2:=hid (F1.out.trans h2);have HO2:=hid (z0p HO.out f2.out (by simp));have V2:=V1.out.fr h2 (by simp);have v0:w2.cell? ⟨wr.heap.size,0,none⟩=some (.string sk):=V2.cell 0;have y0:w2.cell? ⟨gb,i * 7,none⟩=some b0:=(HO2.out.cellAt (i * 7) (by omega)).trans (z4m 7 d i 0 _ HD7.out HS'.out (by decide));have z0:w2.frozen? ⟨gb,i * 7,none⟩=false:=HO2.out.frozenAt _;have v1:w2.cell? ⟨wr.heap.size,1,none⟩=some (.int .i64 sn):=V2.cell 1;have y1:w2.cell? ⟨gb,i * 7+1,none⟩=some b1:=(HO2.out.cellAt (i * 7+1) (by omega)).trans (z4m 7 d i 1 _ HD7.out HS'.out (by decide));have z1:w2.frozen? ⟨gb,i * 7+1,none⟩=false:=HO2.out.frozenAt _;have v2:w2.cell? ⟨wr.heap.size,2,none⟩=some (.string st):=V2.cell 2;have y2:w2.cell? ⟨gb,i * 7+2,none⟩=some b2:=(HO2.out.cellAt (i * 7+2) (by omega)).trans (z4m 7 d i 2 _ HD7.out HS'.out (by decide));have z2:w2.frozen? ⟨gb,i * 7+2,none⟩=false:=HO2.out.frozenAt _;have v3:w2.cell? ⟨wr.heap.size,3,none⟩=some (.slice A1 n1 d1):=V2.cell 3;have y3:w2.cell? ⟨gb,i * 7+3,none⟩=some b3:=(HO2.out.cellAt (i * 7+3) (by omega)).trans (z4m 7 d i 3 _ HD7.out HS'.out (by decide));have z3:w2.frozen? ⟨gb,i * 7+3,none⟩=false:=HO2.out.frozenAt _;have v4:w2.cell? ⟨wr.heap.size,4,none⟩=some (.slice A2 n2 d2):=V2.cell 4;have y4:w2.cell? ⟨gb,i * 7+4,none⟩=some b4:=(HO2.out.cellAt (i * 7+4) (by omega)).trans (z4m 7 d i 4 _ HD7.out HS'.out (by decide));have z4:w2.frozen? ⟨gb,i * 7+4,none⟩=false:=HO2.out.frozenAt _;have v5:w2.cell? ⟨wr.heap.size,5,none⟩=some (.slice A3 n3 d3):=V2.cell 5;have y5:w2.cell? ⟨gb,i * 7+5,none⟩=some b5:=(HO2.out.cellAt (i * 7+5) (by omega)).trans (z4m 7 d i 5 _ HD7.out HS'.out (by decide));have z5:w2.frozen? ⟨gb,i * 7+5,none⟩=false:=HO2.out.frozenAt _;have v6:w2.cell? ⟨wr.heap.size,6,none⟩=some (.int .i64 su):=V2.cell 6;have y6:w2.cell? ⟨gb,i * 7+6,none⟩=some b6:=(HO2.out.cellAt (i * 7+6) (by omega)).trans (z4m 7 d i 6 _ HD7.out HS'.out (by decide));have z6:w2.frozen? ⟨gb,i * 7+6,none⟩=false:=HO2.out.frozenAt _;clear V2 h2;go_wp2;go_roundg (l.length - (j+1))
     case measure=>omega
     case rel=>
      have o0:=HO2.out.stored (i * 7) (.string sk);have o1:=o0.1.stored (i * 7+1) (.int .i64 sn);have o2:=o1.1.stored (i * 7+2) (.string st);have o3:=o2.1.stored (i * 7+3) (.slice A1 n1 d1);have o4:=o3.1.stored (i * 7+4) (.slice A2 n2 d2);have o5:=o4.1.stored (i * 7+5) (.slice A3 n3 d3);have o6:=o5.1.stored (i * 7+6) (.int .i64 su);exact⟨i+1,j+1,d.set i [.string sk,.int .i64 sn,.string st,.slice A1 n1 d1,.slice A2 n2 d2,.slice A3 n3 d3,.int .i64 su],rfl,by go_num,by go_num,HK.out.keep HS.out HQ.out,zsd (p:=p) (j:=j) hdl HDM.out _ HSM.out,by rw[zjb (.string sk) (.int .i64 sn) (.string st) (.slice A1 n1 d1) (.slice A2 n2 d2) (.slice A3 n3 d3) (.int .i64 su) d i HD7.out (by omega)];exact o6.1,((((((((HF.out.trans f2.out.up).setCell (p:=⟨gb,i * 7,none⟩) (.inl (by simp)) _).setCell (p:=⟨gb,i * 7+1,none⟩) (.inl (by simp)) _).setCell (p:=⟨gb,i * 7+2,none⟩) (.inl (by simp)) _).setCell (p:=⟨gb,i * 7+3,none⟩) (.inl (by simp)) _).setCell (p:=⟨gb,i * 7+4,none⟩) (.inl (by simp)) _).setCell (p:=⟨gb,i * 7+5,none⟩) (.inl (by simp)) _).setCell (p:=⟨gb,i * 7+6,none⟩) (.inl (by simp)) _)⟩
   ·obtain rfl:j=l.length:=by omega
    have hdone:=hK.done;obtain⟨cur,w0,l0,t0,hb0,_,_,hxl⟩:=z24 hO;obtain⟨zs,hzs⟩:∃zs,zs=(Builtin.zeroCells (Value.cells (.agg #[.string ⟨#[]⟩,.int .i64 0,.string ⟨#[]⟩,.slice none 0 0,.slice none 0 0,.slice none 0 0,.int .i64 0])) (l.length - i)).toList:=⟨_,rfl⟩;have hzl:zs.length=(l.length - i) * 7:=by rw[hzs];simp[Builtin.zeroCells,Value.cells]
    have hcl:∀ty,(Builtin.clear_ #[23] ty #[.slice (some ⟨gb,i * 7,none⟩) (l.length - i) (c - i)]).run prog wr=.ok (.tuple #[]) (wr.setCells gb (i * 7) zs):=fun ty=>by
     have:=z3f (P:=prog) wr 23 81 ty (.agg #[.string ⟨#[]⟩,.int .i64 0,.string ⟨#[]⟩,.slice none 0 0,.slice none 0 0,.slice none 0 0,.int .i64 0]) Tryz.underlying23 zzo (by intro u hu;simp[Value.cells] at hu;rcases hu with rfl|rfl|rfl|rfl|rfl|rfl|rfl <;> rfl) gb (i * 7) (l.length - i) (c - i) (by omega) (fun t ht=>by
      exact z0n w0 (o:=i * 7) (m:=(l.length - i) * 7) (by omega) t (by simpa[Value.cells] using ht))
     rw[←hzs] at this;exact this
    have W1:=z15 zs (i * 7) wr cur w0 (by omega);have O1:=z2w (cap:=c) (k:=7) (n:=i) (base:=base) W1 (by simp only[List.length_append,List.length_take,List.length_drop,l0,hzl];omega) hb0 (by omega) (by unfold maxLen;omega);rw[List.append_assoc,List.take_append_of_le_length (by rw[List.length_take];omega),List.take_take,Nat.min_eq_left (by omega)] at O1
    have e5:cur.take (i * 7)=(l.filter fun x=>!p x).flatten:=by
     rw[←hdone,←z8e 7 d i HD7.out,←t0,List.take_take,Nat.min_eq_left (by omega)]
    have e6:i=(l.filter fun x=>!p x).length:=by rw[←hdone,List.length_take];omega
    rw[e5] at O1;have HO1:=hid O1;have HE:=hid e6;have G1:=hid (z08 (g:=gb) zs (i * 7) wr);have hic:i < c:=by omega
    clear hK hO hF w0 l0 t0 hb0 hxl hzs hzl W1 O1 e5 e6 hdone hdl HK HO;go_wp2;go_ret;have e6:=HE.out;refine⟨_,rfl,?_,?_,rfl⟩
    ·rw[←e6];exact HO1.out
    ·exact HF.out.grown G1.out (fun k hk=>by cases hk;exact .inl (by simp))
theorem zct:(prog.info? 81).map (fun i=>(i.zero,i.size,i.bytes))=some (some (.agg #[.string ⟨#[]⟩,.int .i64 0,.string ⟨#[]⟩,.slice none 0 0,.slice none 0 0,.slice none 0 0,.int .i64 0]),7,120):=by kernel_rfl
theorem zff(e:Ent)(A1 A2 A3:Option Addr)(c1 c2 c3:Nat):∀u∈z8f e A1 c1 A2 c2 A3 c3,u.oneCell'=true:=fun u hu=>by
 simp[z8f] at hu;rcases hu with rfl|rfl|rfl|rfl|rfl|rfl|rfl <;> rfl
theorem z2t:9≠81∧108≠81∧113≠81:=by decide
theorem z1s.snoc{w':World}{base:Nat}{v':Value}{l:List Ent}{e:Ent}{cs:List Value}{rs:List (List Value)}(hl:rs.length=l.length)(h:∀(i:Nat) (e:Ent),l[i]? = some e→∃cs:List Value,rs[i]? = some cs∧z2o w' base cs e)(he:z2o w' base cs e)(ho:w'.ownsRow base 81 7 v' (l.length+1) (rs.flatten++cs)):z1s w' base v' (l++[e]):=by
 refine⟨rs++[cs],by simp[hl],fun i x hx=>?_,by simpa using ho⟩;rcases Nat.lt_or_ge i l.length with h1|h1
 ·rw[List.getElem?_append_left h1] at hx;obtain⟨d,h2,h3⟩:=h i x hx;exact⟨d,by rw[List.getElem?_append_left (by omega)];exact h2,h3⟩
 ·have:i=l.length:=by have:=(List.getElem?_eq_some_iff.1 hx).1;simp at this;omega
  subst this;rw[List.getElem?_append_right (Nat.le_refl _),Nat.sub_self] at hx;simp at hx;subst hx;exact⟨cs,by rw[List.getElem?_append_right (by omega),hl,Nat.sub_self];rfl,he⟩
def OwnS(base:Nat)(l:List Ent)(w:World)(r:Ending)(w':World):Prop:=∃u,r=.returned u∧z1s w' base u l∧Fr [] w w'
theorem z2y(l:List Ent)(v:Value)(w:World)(B:Nat)(hs:∀e∈l,e.Small)(h24:∀e∈l,e.item.list.length≤1000000∧e.item.pairs.length≤1000000∧e.item.scores.length≤1000000)(hl:l.length≤1000000)(hB:B≤w.heap.size)(h:z1l w B v l):
  Calls prog 118 #[v] w (OwnS w.heap.size l w):=by
 obtain⟨i0,hi,hz0,hz1,hz2⟩:=info_parts zct;obtain⟨A,c,rfl⟩:=h.form;have HV:=hid h;have HS:=hid hs;have H24:=hid h24;clear h hs h24;go_enter Tryz.func118,Tryz.ntmps118;go_wp2;go_loopg [3,8] l.length (fun g o i wr=>∃(k:Nat),g=l.length - k∧k≤l.length∧i=.int .i64 k∧z1s wr w.heap.size o (l.take k)∧Fr [] w wr)
 case atStart=>exact⟨0,rfl,Nat.zero_le _,rfl,by rw[List.take_zero];exact z1s.nil _ _,Fr.refl _ _⟩
 case round=>
  obtain⟨k,rfl,hk,rfl,hO,hf⟩:=hrel;have HF:=hid hf;have HO:=hid hO;have hlt0:(l.take k).length=k:=by rw[List.length_take];omega
  obtain⟨Ao,co,hv⟩:=hO.form;rw[hlt0] at hv;subst hv;clear hf hO hlt0;by_cases hlt:k < l.length
  ·obtain⟨b,off,rfl,hb,hc,hmx,hat⟩:=HV.out.at_ (by omega);obtain⟨e,he⟩:∃e,l[k]? = some e:=⟨_,List.getElem?_eq_getElem hlt⟩;obtain⟨A1,A2,A3,c1,c2,c3,h7⟩:=hat k e he;have hem:=List.mem_of_getElem? he;have P7:=hid (h7.fr HF.out hb hB (by simp));obtain⟨x0,x1,x2,x3,x4,x5,x6,-⟩:=P7.out;have ET:=hid (show l.take (k+1)=l.take k++[e] from by rw[List.take_add_one,he];rfl);have LT:=hid (show(l.take k).length=k from by rw[List.length_take];omega);have V1:=hid (Whole.new wr 81 [.string e.key,.int .i64 e.item.kind,.string e.item.text,.slice A1 e.item.list.length c1,.slice A2 e.item.pairs.length c2,.slice A3 e.item.scores.length c3,.int .i64 e.til]);have F1:=hid ((Fr.refl [] wr).alloc (.cells #[.string e.key,.int .i64 e.item.kind,.string e.item.text,.slice A1 e.item.list.length c1,.slice A2 e.item.pairs.length c2,.slice A3 e.item.scores.length c3,.int .i64 e.til] 81));obtain⟨n1,n2,n3⟩:=H24.out e hem;have OW:=hid (z8t e.item _ _ B (HS.out e hem).item n1 n2 n3 (Nat.le_trans hB (Nat.le_trans HF.out.size F1.out.size)) ((P7.out.ent.fr F1.out (Nat.le_trans hB HF.out.size) (by simp)).item));clear hat h7 he hem n1 n2 n3;go_wp2_with fail;refine OW.out.mono ?_;rintro e2 w2 ⟨u,rfl,hi2,f2⟩;have V2:=hid (V1.out.fr f2 (by simp));have G2:=hid (F1.out.trans f2);have HI2:=hid hi2;obtain⟨P1,p1,P2,p2,P3,p3,rfl⟩:=hi2.form;have hzw2:=V2.out.lt;clear hi2 f2 x0 x1 x2 x3 x4 x5 x6;obtain⟨y0,y1,y2,y3,y4,y5,y6⟩:=seven V2.out;obtain⟨z0,z1,z2,z3,z4,z5,z6⟩:=z3u V2.out;obtain⟨W3,hW3⟩:∃W3,W3=((((w2.setCell ⟨wr.heap.size,1,none⟩ (.int .i64 e.item.kind)).setCell ⟨wr.heap.size,2,none⟩ (.string e.item.text)).setCell ⟨wr.heap.size,3,none⟩ (.slice P1 e.item.list.length p1)).setCell ⟨wr.heap.size,4,none⟩ (.slice P2 e.item.pairs.length p2)).setCell ⟨wr.heap.size,5,none⟩ (.slice P3 e.item.scores.length p3):=⟨_,rfl⟩
   have G3:=hid (show Fr [] wr W3 from by
    rw[hW3];exact((((G2.out.setCell (p:=⟨wr.heap.size,1,none⟩) (.inr (Nat.le_refl _)) _).setCell (p:=⟨wr.heap.size,2,none⟩) (.inr (Nat.le_refl _)) _).setCell (p:=⟨wr.heap.size,3,none⟩) (.inr (Nat.le_refl _)) _).setCell (p:=⟨wr.heap.size,4,none⟩) (.inr (Nat.le_refl _)) _).setCell (p:=⟨wr.heap.size,5,none⟩) (.inr (Nat.le_refl _)) _)
   have V3:=hid (show Whole W3 wr.heap.size 81 [.string e.key,.int .i64 e.item.kind,.string e.item.text,.slice P1 e.item.list.length p1,.slice P2 e.item.pairs.length p2,.slice P3 e.item.scores.length p3,.int .i64 e.til] from by
    rw[hW3];exact((((V2.out.set_ 1 _).set_ 2 _).set_ 3 _).set_ 4 _).set_ 5 _)
   have HI3:=hid (show z2o W3 w.heap.size (z8f e P1 p1 P2 p2 P3 p3) e from by
    rw[hW3];obtain⟨L1,L2,L3,hv,o1,o2,o3⟩:=HI2.out;cases hv;have hbz:wr.heap.size < (wr.alloc (.cells #[.string e.key,.int .i64 e.item.kind,.string e.item.text,.slice A1 e.item.list.length c1,.slice A2 e.item.pairs.length c2,.slice A3 e.item.scores.length c3,.int .i64 e.til] 81)).heap.size:=by simp
    have hwz:=HF.out.size;exact⟨_,_,_,_,_,_,rfl,z16 (z0w (z0w (z0w (z0w (z0w o1 hbz _) hbz _) hbz _) hbz _) hbz _) (by omega),z16 (z0w (z0w (z0w (z0w (z0w o2 hbz _) hbz _) hbz _) hbz _) hbz _) (by omega),z16 (z0w (z0w (z0w (z0w (z0w o3 hbz _) hbz _) hbz _) hbz _) hbz _) (by omega)⟩)
   have HO3:=hid (HO.out.fr G3.out);have HW3:=hid hW3;clear hW3;go_upto_region 6 with fail;rw[←HW3.out];clear HW3 y0 y1 y2 y3 y4 y5 y6 z0 z1 z2 z3 z4 z5 z6;obtain⟨y0,y1,y2,y3,y4,y5,y6⟩:=seven V3.out;obtain⟨rs,hr1,hr2,hr3⟩:=HO3.out;have HR3:=hid (show W3.ownsRow w.heap.size 81 7 (.slice Ao k co) k rs.flatten from by have:=hr3;rw[LT.out] at this;exact this);have HR1:=hid hr1;have HR2:=hid hr2;have hzz:w.heap.size≤W3.heap.size:=Nat.le_trans HF.out.size G3.out.size;have hO1:=hid (z0s (World.ownsRow_lit (base:=W3.heap.size) (e:=81) (size:=7) W3 #[.string e.key,.int .i64 e.item.kind,.string e.item.text,.slice P1 e.item.list.length p1,.slice P2 e.item.pairs.length p2,.slice P3 e.item.scores.length p3,.int .i64 e.til] 1 (Nat.le_refl _) (by decide) rfl));clear hr1 hr2 hr3;go_wp2_with (at_builtin;refine z0j _ rfl _ _ 23 rfl w.heap.size 81 i0 _ 7 120 Tryz.underlying23 hi hz0 hz1 hz2 rfl (by decide) _ _ _ rfl (HR3.out.alloc _) _ _ 1 _ rfl hO1.out (zff e P1 P2 P3 p1 p2 p3) ?c1 ?c2 ?c3 ?_)
   case c1=>unfold maxLen;omega
   case c2=>omega
   case c3=>first|omega|(simp;omega)
   intro v' w5 hown hgrow hat5;have HO5:=hid hown;have HG5:=hid hgrow;clear hown hgrow hat5;have F5:=hid (HF.out.trans (G3.out.alloc (.cells #[.string e.key,.int .i64 e.item.kind,.string e.item.text,.slice P1 e.item.list.length p1,.slice P2 e.item.pairs.length p2,.slice P3 e.item.scores.length p3,.int .i64 e.til] 81)))
   have HE:=hid (show z1s w5 w.heap.size v' (l.take (k+1)) from by
    rw[ET.out];have ff:=z3p HG5.out;have oa:=HR3.out.alloc (.cells #[.string e.key,.int .i64 e.item.kind,.string e.item.text,.slice P1 e.item.list.length p1,.slice P2 e.item.pairs.length p2,.slice P3 e.item.scores.length p3,.int .i64 e.til] 81);refine z1s.snoc HR1.out (fun i x hx=>?_) ((HI3.out.fr ((Fr.refl [] W3).alloc _)).row oa z2t ff) (by rw[LT.out];exact HO5.out);obtain⟨d,h3,h4⟩:=HR2.out i x hx;exact⟨d,h3,(h4.fr ((Fr.refl [] W3).alloc _)).row oa z2t ff⟩)
   have F6:=hid (F5.out.grown HG5.out (fun j hj=>.inr (HR3.out.lt j hj).1));go_wp2;go_roundg (l.length - (k+1))
   case measure=>omega
   case rel=>exact⟨k+1,rfl,by omega,by go_num,HE.out,F6.out⟩
  ·obtain rfl:k=l.length:=by omega
   rw[List.take_length] at HO;go_wp2;go_ret;exact⟨_,rfl,HO.out,HF.out⟩
section
variable {P:Program}
theorem z29(w:World)(dT sT ty elem:TypeId)(i:TypeInfo)(k b o dLen dCap:Nat)(a:Addr)(sLen sCap m:Nat)(cs:List Value)
  (hu:P.underlying dT=some (.slice elem)) (hi:P.info? elem=some i) (hs:i.size=k) (hm:Nat.min sLen dLen=m) (hn:cs.length=m * k)
  (hsrc:∀j v,cs[j]? = some v→w.cell? (a.add j)=some v) (hc:∀j,j < cs.length→(w.cell? ⟨b,o+j,none⟩).isSome=true∧w.frozen? ⟨b,o+j,none⟩=false) (h1:∀v∈cs,v.oneCell'=true):
  (Builtin.copy_ #[dT,sT] ty #[.slice (some ⟨b,o,none⟩) dLen dCap,.slice (some a) sLen sCap]).run P w=.ok (goInt m) (w.setCells b o cs):=by
 have hl:=run_loadCells_list (P:=P) w a cs hsrc;have hst:=run_storeCells_cells (P:=P) b o cs 0 w (by simpa using fun j hj=>(hc j hj).1) (by simpa using fun j hj=>(hc j hj).2) h1;rw[hn] at hl;simp[Builtin.copy_,run_underlying hu,Builtin.lenOf,Builtin.firstCells,sizeOf,typeInfo,hi,hs,hm,hl,hst]
end
section
variable {w:World} {g base e k n cap i:Nat} {xs vs:List Value}
def z10(xs vs:List Value)(o:Nat):List Value:=xs.take o++vs++xs.drop o
theorem zki(h:w.ownsRow base e k (.slice (some ⟨g,0,none⟩) n cap) n xs)(hi:i≤n)(hr:n+1≤cap)(hv:vs.length=k):
  ∃cur0 cur,Whole w g e cur0∧cur0.length=cap * k∧Whole (w.setCells g ((i+1) * k) (xs.drop (i * k))) g e cur∧cur.length=cap * k ∧
   ((w.setCells g ((i+1) * k) (xs.drop (i * k))).setCells g (i * k) vs).ownsRow base e k (.slice (some ⟨g,0,none⟩) (n+1) cap) (n+1) (z10 xs vs (i * k)):=by
 obtain⟨cur,hw,hl,ht,hb,hn,hm,hxl⟩:=z24 h;have hik:i * k≤n * k:=Nat.mul_le_mul_right _ hi;have e1:(i+1) * k=i * k+k:=Nat.succ_mul i k;have e2:(n+1) * k=n * k+k:=Nat.succ_mul n k;have b1:(n+1) * k≤cap * k:=Nat.mul_le_mul_right _ hr;have hdl:(xs.drop (i * k)).length=n * k - i * k:=by rw[List.length_drop,hxl]
 have W1:=z15 (xs.drop (i * k)) ((i+1) * k) w cur hw (by rw[hdl,hl,e1];omega)
 have l1:(cur.take ((i+1) * k)++xs.drop (i * k)++cur.drop ((i+1) * k+(xs.drop (i * k)).length)).length=cap * k:=by
  simp only[List.length_append,List.length_take,List.length_drop,hl] at hdl ⊢;omega
 refine⟨cur,_,hw,hl,W1,l1,?_⟩;have W2:=z15 vs (i * k) _ _ W1 (by rw[l1,hv];omega)
 have l2:∀c1:List Value,c1.length=cap * k→(c1.take (i * k)++vs++c1.drop (i * k+vs.length)).length=cap * k:=by
  intro c1 hc1;simp only[List.length_append,List.length_take,List.length_drop,hv,hc1];omega
 have:=z2w (cap:=cap) (k:=k) (n:=n+1) (base:=base) W2 (l2 _ l1) hb hr hm;have t1:(cur.take ((i+1) * k)).length=(i+1) * k:=by rw[List.length_take,hl];omega
 have e3:(cur.take ((i+1) * k)++xs.drop (i * k)++cur.drop ((i+1) * k+(xs.drop (i * k)).length)).take (i * k)=xs.take (i * k):=by
  rw[List.append_assoc,List.take_append_of_le_length (by omega),List.take_take,Nat.min_eq_left (by omega),←ht,List.take_take,Nat.min_eq_left (by omega)]
 have e4:(cur.take ((i+1) * k)++xs.drop (i * k)++cur.drop ((i+1) * k+(xs.drop (i * k)).length)).drop (i * k+vs.length)=xs.drop (i * k)++cur.drop ((i+1) * k+(xs.drop (i * k)).length):=by
  rw[hv,←e1,List.append_assoc,List.drop_append_of_le_length (by omega),List.drop_of_length_le (by omega),List.nil_append]
 have e5:((cur.take ((i+1) * k)++xs.drop (i * k)++cur.drop ((i+1) * k+(xs.drop (i * k)).length)).take (i * k)++vs++(cur.take ((i+1) * k)++xs.drop (i * k)++cur.drop ((i+1) * k+(xs.drop (i * k)).length)).drop (i * k+vs.length)).take ((n+1) * k)=z10 xs vs (i * k):=by
  rw[e3,e4,←List.append_assoc];unfold z10
  have hlen:(xs.take (i * k)++vs++xs.drop (i * k)).length=(n+1) * k:=by
   simp only[List.length_append,List.length_take,List.length_drop,hxl,hv];omega
  rw[List.take_append_of_le_length (by omega),List.take_of_length_le (by omega)]
 rw[e5] at this;exact this
theorem zjr{G:Nat}{zs:List Value}(hx:xs.length=n * k)(hi:i≤n)(hv:vs.length=k)(hG:n+1≤G)(hm:G≤maxLen)(hb:base≤g)(hw:Whole w g e (xs.take (i * k)++zs))(hz:(xs.take (i * k)++zs).length=G * k):
  ∃cur,Whole (w.setCells g (i * k) vs) g e cur∧cur.length=G * k ∧
   ((w.setCells g (i * k) vs).setCells g ((i+1) * k) (xs.drop (i * k))).ownsRow base e k (.slice (some ⟨g,0,none⟩) (n+1) G) (n+1) (z10 xs vs (i * k)):=by
 have hik:i * k≤n * k:=Nat.mul_le_mul_right _ hi;have e1:(i+1) * k=i * k+k:=Nat.succ_mul i k;have e2:(n+1) * k=n * k+k:=Nat.succ_mul n k;have b1:(n+1) * k≤G * k:=Nat.mul_le_mul_right _ hG;have hdl:(xs.drop (i * k)).length=n * k - i * k:=by rw[List.length_drop,hx]
 have tl:(xs.take (i * k)).length=i * k:=by rw[List.length_take];omega
 have W1:=z15 vs (i * k) w _ hw (by rw[hz,hv];omega)
 have e3:(xs.take (i * k)++zs).take (i * k)=xs.take (i * k):=by
  rw[List.take_append_of_le_length (by omega),List.take_of_length_le (by omega)]
 rw[e3] at W1
 have l1:(xs.take (i * k)++vs++(xs.take (i * k)++zs).drop (i * k+vs.length)).length=G * k:=by
  rw[List.length_append,List.length_drop,hz,List.length_append,tl,hv];omega
 refine⟨_,W1,l1,?_⟩;have W2:=z15 (xs.drop (i * k)) ((i+1) * k) _ _ W1 (by rw[l1,hdl];omega)
 have e4:(xs.take (i * k)++vs++(xs.take (i * k)++zs).drop (i * k+vs.length)).take ((i+1) * k)=xs.take (i * k)++vs:=by
  rw[List.take_append_of_le_length (by rw[List.length_append,tl,hv];omega),List.take_of_length_le (by rw[List.length_append,tl,hv];omega)]
 rw[e4] at W2
 have l2:∀c1:List Value,c1.length=G * k→(xs.take (i * k)++vs++xs.drop (i * k)++c1.drop ((i+1) * k+(xs.drop (i * k)).length)).length=G * k:=by
  intro c1 hc1;simp only[List.length_append,List.length_take,List.length_drop,hv,hc1,hx];omega
 have:=z2w (cap:=G) (k:=k) (n:=n+1) (base:=base) W2 (l2 _ l1) hb hG hm
 have hlen:(xs.take (i * k)++vs++xs.drop (i * k)).length=(n+1) * k:=by
  simp only[List.length_append,List.length_take,List.length_drop,hx,hv];omega
 rw[List.take_append_of_le_length (by omega),List.take_of_length_le (by omega)] at this;exact this
end
theorem z4t(b:Nat):∀(vs:List Value) (o:Nat) (w:World),w.drew.setCells b o vs=(w.setCells b o vs).drew
 | [],_,_=>rfl
 | v :: r,o,w=>by
  rw[World.setCells,World.setCells];exact z4t b r (o+1) (w.setCell ⟨b,o,none⟩ v)
theorem z3y{w w1 w2:World}{r:Option Nat}{g:Nat}(h:w.grownBy w1 r)(h2:w1.grownBy w2 (some g))(hg:w.heap.size≤g):w.grownBy w2 r:=
 ⟨h2.os.trans h.os,h2.tape.trans h.tape,h2.output.trans h.output,Nat.le_trans h.size h2.size,fun j hj hne=>(h2.block j (Nat.lt_of_lt_of_le hj h.size) (by intro e;injection e with e;omega)).trans (h.block j hj hne)⟩
theorem z8m(w:World)(o:Obj)(r:Option Nat):w.grownBy (w.alloc o) r:=
 ⟨rfl,rfl,rfl,by show _≤(w.heap.push o).size;simp,fun j hj _=>Below.heap_alloc w o j hj⟩
section
variable {P:Program}
theorem zf6(w:World){o:Oper}{a:Act}{K:Act→World→Prop}{Q:Exit→Act→World→Prop}(d s:Operand)(t t':TypeId)
  (ho:o.op=.call { callee:=.builtin .copy,args:=#[d,s],argTypes:=#[t,t'] }) (v u:Value) (hd:a.eval d=v) (hs:a.eval s=u) {v':Value} {w':World}
  (hr:(Builtin.copy_ #[t,t'] o.type #[v,u]).run P w=.ok v' w') (h:K (a.put o.dst v') w'):o.wp P a w K Q:=by
 unfold Oper.wp execOp;simp only[ho,resolve,invoke,builtin,Sem.run_bind,Sem.run_pure,Result.andThen_ok,List.map_toArray,List.map_cons,List.map_nil,hd,hs,hr];exact h
theorem z2n(w:World){ops:Array Oper}{rest:List Oper}{o:Oper}{a:Act}{Q:Exit→Act→World→Prop}(hgd:o.guard=none)(d s:Operand)(t t':TypeId)
  (ho:o.op=.call { callee:=.builtin .copy,args:=#[d,s],argTypes:=#[t,t'] }) (v u:Value) (hd:a.eval d=v) (hs:a.eval s=u) {v':Value} {w':World}
  (hr:(Builtin.copy_ #[t,t'] o.type #[v,u]).run P w=.ok v' w') (h:wpList P ops Q rest (a.put o.dst v') w'):wpList P ops Q (o :: rest) a w:=
 wpList_plain hgd fun _ hK=>zf6 w d s t t' ho v u hd hs hr (hK _ _ h)
theorem z3g{ops:Array Oper}{o:Oper}{a:Act}{w:World}{K:Act→World→Prop}{Q:Exit→Act→World→Prop}{E:Prop}(hgd:o.guard=none)(d s:Operand)(t t':TypeId)
  (ho:o.op=.call { callee:=.builtin .copy,args:=#[d,s],argTypes:=#[t,t'] }) (v u:Value) (hd:a.eval d=v) (hs:a.eval s=u) {v':Value} {w':World}
  (hr:(Builtin.copy_ #[t,t'] o.type #[v,u]).run P w=.ok v' w') (h:K (a.put o.dst v') w'):
  if Region.wanted o (yielded ops a.tmps)=true then Oper.wp P o a w K Q else E:=by
 have hw:Region.wanted o (yielded ops a.tmps)=true:=by simp[Region.wanted,hgd]
 rw[if_pos hw];exact zf6 w d s t t' ho v u hd hs hr h
end
section
variable {P:Program} (w:World)
theorem znn{t t2 e ty:TypeId}(ht:P.underlying t=some (.slice e))(ht2:P.underlying t2=some (.slice e))(v x:Value):(Builtin.append_ #[t,t2] ty #[v,x]).run P w=(Builtin.append_ #[t,t] ty #[v,x]).run P w:=by
 cases v <;> simp[Builtin.append_,run_underlying ht,run_underlying ht2]
theorem zgq{o:Oper}{a:Act}{K:Act→World→Prop}{Q:Exit→Act→World→Prop}(s x:Operand)(t t2:TypeId)
  (ho:o.op=.call { callee:=.builtin .append,args:=#[s,x],argTypes:=#[t,t2] })
  (base:Nat) (e:TypeId) (i:TypeInfo) (z:Value) (size bytes:Nat) (ht:P.underlying t=some (.slice e)) (ht2:P.underlying t2=some (.slice e)) (hi:P.info? e=some i) (hz:i.zero=some z)
  (hsize:i.size=size) (hby:i.bytes=bytes) (hzs:z.cells.size=size) (hsz:0 < size)
  (v:Value) (n:Nat) (xs:List Value) (hs:a.eval s=v) (hown:w.ownsRow base e size v n xs)
  (B:Nat) (vx:Value) (m:Nat) (news:List Value) (hx:a.eval x=vx) (hr:Sl w B size vx m news) (h1:∀u∈news,u.oneCell'=true)
  (h63:n+m≤maxLen) (hbytes:(n+m) * bytes≤140737488355328) (hbase:base≤w.heap.size)
  (h:∀v' w',w'.ownsRow base e size v' (n+m) (xs++news)→w.grownBy w' v.ownBlock→(v'.ownBlock=v.ownBlock∨v'.ownBlock=some w.heap.size)→K (a.put o.dst v') w'):o.wp P a w K Q:=by
 obtain⟨v',w',hrun,h2,h3,h4⟩:=zac (P:=P) w base t o.type e i z size bytes ht hi hz hsize hby hzs hsz v n xs hown B vx m news hr h1 h63 hbytes hbase;rw[←znn w ht ht2] at hrun;unfold Oper.wp execOp;simp only[ho,resolve,invoke,builtin,Sem.run_bind,Sem.run_pure,Result.andThen_ok,List.map_toArray,List.map_cons,List.map_nil,hs,hx,hrun];exact h v' w' h2 h3 h4
theorem z69{ops:Array Oper}{rest:List Oper}{o:Oper}{a:Act}{Q:Exit→Act→World→Prop}(hgd:o.guard=none)(s x:Operand)(t t2:TypeId)
  (ho:o.op=.call { callee:=.builtin .append,args:=#[s,x],argTypes:=#[t,t2] })
  (base:Nat) (e:TypeId) (i:TypeInfo) (z:Value) (size bytes:Nat) (ht:P.underlying t=some (.slice e)) (ht2:P.underlying t2=some (.slice e)) (hi:P.info? e=some i) (hz:i.zero=some z)
  (hsize:i.size=size) (hby:i.bytes=bytes) (hzs:z.cells.size=size) (hsz:0 < size)
  (v:Value) (n:Nat) (xs:List Value) (hs:a.eval s=v) (hown:w.ownsRow base e size v n xs)
  (B:Nat) (vx:Value) (m:Nat) (news:List Value) (hx:a.eval x=vx) (hr:Sl w B size vx m news) (h1:∀u∈news,u.oneCell'=true)
  (h63:n+m≤maxLen) (hbytes:(n+m) * bytes≤140737488355328) (hbase:base≤w.heap.size)
  (h:∀v' w',w'.ownsRow base e size v' (n+m) (xs++news)→w.grownBy w' v.ownBlock→(v'.ownBlock=v.ownBlock∨v'.ownBlock=some w.heap.size)→wpList P ops Q rest (a.put o.dst v') w'):wpList P ops Q (o :: rest) a w:=
 wpList_plain hgd fun _ hK=>zgq w s x t t2 ho base e i z size bytes ht ht2 hi hz hsize hby hzs hsz v n xs hs hown B vx m news hx hr h1 h63 hbytes hbase fun v' w' h2 h3 h4=>hK _ _ (h v' w' h2 h3 h4)
end
def zuk(m:Nat)(ys:List Value)(base:Nat)(v:Value)(w:World)(e:Ending)(w':World):Prop:=
 ∃v',e=.returned v'∧w'.ownsRow base 81 7 v' m ys∧w.grownBy w' v.ownBlock∧v'.ownBlock=v.ownBlock
theorem zeroE:∀w,(zeroValue 81).run prog w=.ok (.agg #[.string ⟨#[]⟩,.int .i64 0,.string ⟨#[]⟩,.slice none 0 0,.slice none 0 0,.slice none 0 0,.int .i64 0]) w:=fun w=>by kernel_rfl
theorem zu0(n i j:Nat)(xs:List Value)(base:Nat)(v:Value)(w:World)(hn:n≤281474976710656)(hij:i < j)(hj:j≤n)(h:w.ownsRow base 81 7 v n xs)(h1:∀u∈xs,u.oneCell'=true):
  Calls prog 212 #[v,.int .i64 i,.int .i64 j] w (zuk (i+(n - j)) (xs.take (i * 7)++xs.drop (j * 7)) base v w):=by
 obtain⟨i0,hi,hz0,hz1,hz2⟩:=info_parts zct;obtain⟨A,c,rfl,hA,hc,hm⟩:=z05 h;rcases hA with rfl|⟨g,rfl⟩
 ·exfalso;rcases h.2 with⟨_,h0⟩|⟨g',cap',cur,h',_⟩
  ·omega
  ·cases h'
 obtain⟨cur0,w0,l0,t0,hb0,_,_,hxl⟩:=z24 h;have hdl:(xs.drop (j * 7)).length=(n - j) * 7:=by rw[List.length_drop,hxl];omega
 obtain⟨zs,hzs⟩:∃zs,zs=(Builtin.zeroCells (Value.cells (.agg #[.string ⟨#[]⟩,.int .i64 0,.string ⟨#[]⟩,.slice none 0 0,.slice none 0 0,.slice none 0 0,.int .i64 0])) (n - (i+(n - j)))).toList:=⟨_,rfl⟩;have hzl:zs.length=(j - i) * 7:=by rw[hzs];simp[Builtin.zeroCells,Value.cells];omega
 obtain⟨cur1,w1,l1,o2⟩:=zjo (w:=w.drew) h hij hj hzl
 obtain⟨A,hA,hsrc⟩:∃A:Addr,(if c=j then (some ⟨g,0,none⟩:Option Addr) else some ⟨g,j * 7,none⟩)=some A∧Hid (∀t u,(xs.drop (j * 7))[t]? = some u→w.drew.cell? (A.add t)=some u):=by
  by_cases hcj:c=j
  ·refine⟨⟨g,0,none⟩,by simp[hcj],fun t u hu=>?_⟩;have h0:(xs.drop (j * 7)).length=0:=by rw[hdl];omega
   rw[List.length_eq_zero_iff.1 h0] at hu;simp at hu
  ·refine⟨⟨g,j * 7,none⟩,by simp[hcj],fun t u hu=>?_⟩;rw[List.getElem?_drop] at hu;have hlt:=(List.getElem?_eq_some_iff.1 hu).1;have:=(h.cellAt (j * 7+t) (by omega)).trans hu;unfold Addr.add;split
   ·have e:t=0:=by assumption
    subst e;exact this
   ·exact this
 have s1:=hid hdl;have s2:=hid (show ∀u∈xs.drop (j * 7),u.oneCell'=true from fun u hu=>h1 u (List.mem_of_mem_drop hu));have hcn:(i+(n - j)) * 7≤c * 7:=Nat.mul_le_mul_right _ (by omega)
 have s3:=hid (show ∀t,t < (xs.drop (j * 7)).length→(w.drew.cell? ⟨g,0+i * 7+t,none⟩).isSome=true∧w.drew.frozen? ⟨g,0+i * 7+t,none⟩=false from fun t ht=>by
  rw[Nat.zero_add];exact z0n w0 (o:=i * 7) (m:=(n - j) * 7) (by rw[l0];omega) t (by omega))
 obtain⟨W1,hW1⟩:∃W1,W1=w.drew.setCells g (0+i * 7) (xs.drop (j * 7)):=⟨_,rfl⟩
 have hcl:∀ty,(Builtin.clear_ #[23] ty #[.slice (some ⟨g,(i+(n - j)) * 7,none⟩) (n - (i+(n - j))) (c - (i+(n - j)))]).run prog W1=.ok (.tuple #[]) (W1.setCells g ((i+(n - j)) * 7) zs):=fun ty=>by
  have:=z3f (P:=prog) W1 23 81 ty (.agg #[.string ⟨#[]⟩,.int .i64 0,.string ⟨#[]⟩,.slice none 0 0,.slice none 0 0,.slice none 0 0,.int .i64 0]) Tryz.underlying23 zeroE (by intro u hu;simp[Value.cells] at hu;rcases hu with rfl|rfl|rfl|rfl|rfl|rfl|rfl <;> rfl) g ((i+(n - j)) * 7) (n - (i+(n - j))) (c - (i+(n - j))) (by omega) (fun t ht=>by
   rw[hW1,Nat.zero_add];exact z0n (w:=(w.drew.setCells g (i * 7) (xs.drop (j * 7)))) w1 (o:=(i+(n - j)) * 7) (m:=(n - (i+(n - j))) * 7) (by rw[l1];omega) t (by simpa[Value.cells] using ht))
  rw[←hzs,show(i+(n - j)) * 7=(i+(n - j)) * 7 by omega] at this;exact this
 rw[show(i+(n - j)) * 7=(i+(n - j)) * 7 by omega] at o2;have O2:=hid o2;have HW:=hid hW1;have hic:i≤c:=by omega
 have hjc:j≤c:=by omega
 have hlt:i < j:=hij;unfold maxLen at hm;clear h h1 cur0 w0 l0 t0 hb0 hxl hdl hzs hzl w1 l1 o2 cur1 hW1 hcn;go_enter Tryz.func212,Tryz.ntmps212;go_wp2_with fail
 go_region_law (refine step_append_room rfl (.tmp 22) (.tmp 25) 23 rfl 81 i0 7 Tryz.underlying23 hi hz1 g 0 i c (by simp[Act.eval,Act.put]) A (n - j) (c - j) (xs.drop (j * 7)) (by simp[Act.eval,Act.put]) s1.out hsrc.out s2.out (by omega) s3.out ?_;rw[←HW.out])
 go_wp2;go_ret;have e1:=HW.out;rw[Nat.zero_add] at e1;subst e1;exact⟨_,rfl,O2.out,z23 ((z08 _ _ _).trans (z08 _ _ _)),rfl⟩
def zch(m:Nat)(ys:List Value)(base:Nat)(v:Value)(w:World)(e:Ending)(w':World):Prop:=
 ∃v',e=.returned v'∧w'.ownsRow base 81 7 v' m ys∧w.grownBy w' v.ownBlock∧(v'.ownBlock=v.ownBlock∨v'.ownBlock=some w.heap.size)
theorem zus(n:Nat)(xs vs:List Value)(base gv:Nat)(v:Value)(w:World)(hn:(n+1) * 120≤140737488355328)(h:w.ownsRow base 81 7 v n xs)(hv1:∀u∈vs,u.oneCell'=true)(hvl:vs.length=7)(hgv:Whole w gv 81 vs)(hb:base≤w.heap.size):
  Calls prog 213 #[v,.int .i64 n,.slice (some ⟨gv,0,none⟩) 1 1] w (zch (n+1) (xs++vs) base v w):=by
 obtain⟨i0,hi,hz0,hz1,hz2⟩:=info_parts zct;have hs:Sl w w.heap.size 7 (.slice (some ⟨gv,0,none⟩) 1 1) 1 vs:=⟨_,_,rfl,by omega,by omega,by unfold maxLen;omega,fun _=>⟨gv,0,rfl,hgv.lt,fun j u hu=>by rw[Nat.zero_add,hgv.cell];exact hu⟩⟩;have HS:=hid hs;have HO:=hid h;have H1:=hid hv1;obtain⟨A,c,rfl,hA,hc,hm⟩:=z05 h;unfold maxLen at hm;clear hs h hv1 hvl hgv;rcases hA with rfl|⟨g,rfl⟩
 ·have hn0:n=0:=by
   rcases HO.out.2 with⟨_,h0⟩|⟨g',cap',cur,h',_⟩
   ·exact h0
   ·cases h'
  subst hn0;go_enter Tryz.func213,Tryz.ntmps213;go_wp2_with (at_builtin;refine z69 _ rfl _ _ 23 22 rfl base 81 i0 _ 7 120 Tryz.underlying23 Tryz.underlying22 hi hz0 hz1 hz2 rfl (by decide) _ _ _ rfl HO.out _ _ 1 vs rfl HS.out H1.out ?c1 ?c2 hb ?_)
  case c1=>unfold maxLen;omega
  case c2=>omega
  intro v' w2 hown' hgrow hat;go_wp2;go_ret;exact⟨_,rfl,hown',hgrow,hat⟩
 ·by_cases hcn:c=n
  all_goals
   go_enter Tryz.func213,Tryz.ntmps213;go_wp2_with (at_builtin;refine z69 _ rfl _ _ 23 22 rfl base 81 i0 _ 7 120 Tryz.underlying23 Tryz.underlying22 hi hz0 hz1 hz2 rfl (by decide) _ _ _ rfl HO.out _ _ 1 vs rfl HS.out H1.out (by unfold maxLen;omega) (by omega) hb (fun v' w2 hown' hgrow hat=>?_));go_ret;exact⟨_,rfl,hown',hgrow,hat⟩
theorem zy1(n i c g:Nat)(xs vs:List Value)(base gv:Nat)(w:World)(hin:i < n)(hr:n+1≤c)(h:w.ownsRow base 81 7 (.slice (some ⟨g,0,none⟩) n c) n xs)(h1:∀u∈xs,u.oneCell'=true)(hv1:∀u∈vs,u.oneCell'=true)(hvl:vs.length=7)(hgv:Whole w gv 81 vs)(hne:gv≠g):
  Calls prog 213 #[.slice (some ⟨g,0,none⟩) n c,.int .i64 i,.slice (some ⟨gv,0,none⟩) 1 1] w (zch (n+1) (z10 xs vs (i * 7)) base (.slice (some ⟨g,0,none⟩) n c) w):=by
 obtain⟨i0,hi,hz0,hz1,hz2⟩:=info_parts zct;obtain⟨cur0,cur,w0,l0,w1,l1,o2⟩:=zki (w:=w.drew) h (Nat.le_of_lt hin) hr hvl;obtain⟨_,_,_,_,_,_,hm,hxl⟩:=z24 h;have hdl:(xs.drop (i * 7)).length=(n - i) * 7:=by rw[List.length_drop,hxl];omega
 have hov:∀lb cb,(callFunc 287 #[.slice (some ⟨gv,0,none⟩) 1 1,.slice (some ⟨g,(i+1) * 7,none⟩) lb cb]).run prog w=.ok (.value (.bool false)) w:=fun lb cb=>by
  rw[run_callFunc_extern Tryz.func287 (by kernel_rfl) (by kernel_rfl) (by kernel_rfl) (e:=Extern.SlicesOverlaps.overlaps #[22,22] #[4]) (by kernel_rfl),
   Lib.run_overlaps_apart w 22 4 81 Tryz.underlying22 7 (fun w=>by kernel_rfl) ⟨gv,0,none⟩ ⟨g,(i+1) * 7,none⟩ 1 1 lb cb hne 81 81 vs.length cur0.length (by unfold Whole at hgv;simp[World.shape?,hgv]) (by have:=w0;unfold Whole at this;have:w.heap[g]? = _:=this;simp[World.shape?,this]) (by rw[l0];omega) (hgv.frozen _) (hgv.frozen _)]
  rfl
 have hc1:∀ty dc sc,(Builtin.copy_ #[23,23] ty #[.slice (some ⟨g,(i+1) * 7,none⟩) (n - i) dc,.slice (some ⟨g,i * 7,none⟩) (n+1 - i) sc]).run prog w.drew=.ok (goInt ((n - i:Nat))) (w.drew.setCells g ((i+1) * 7) (xs.drop (i * 7))):=fun ty dc sc=>
  z29 w.drew _ _ ty 81 i0 7 g ((i+1) * 7) (n - i) dc ⟨g,i * 7,none⟩ (n+1 - i) sc (n - i) _ Tryz.underlying23 hi hz1 (by simp only[Nat.min_def];split <;> omega) hdl
   (fun t u hu=>by
    rw[List.getElem?_drop] at hu;have hlt:=(List.getElem?_eq_some_iff.1 hu).1;have:=(h.cellAt (i * 7+t) (by omega)).trans hu;rw[Addr.add_lit,show i * 7=i * 7 by omega];exact this)
   (fun t ht=>by
    rw[show(i+1) * 7=(i+1) * 7 by omega];exact z0n w0 (o:=(i+1) * 7) (m:=(n - i) * 7) (by rw[l0];omega) t (by omega))
   (fun u hu=>h1 u (List.mem_of_mem_drop hu))
 rw[show(i+1) * 7=(i+1) * 7 by omega] at w1 o2;obtain⟨W1,hW1⟩:∃W1,W1=w.drew.setCells g ((i+1) * 7) (xs.drop (i * 7)):=⟨_,rfl⟩;rw[←hW1] at hc1 w1 o2
 have hgv1:Whole W1 gv 81 vs:=by
  rw[hW1];exact hgv.drew.grown (z08 _ _ _) (by simpa using hne)
 rw[show i * 7=i * 7 by omega] at o2
 have hc2:∀ty dc,(Builtin.copy_ #[23,22] ty #[.slice (some ⟨g,i * 7,none⟩) (n+1 - i) dc,.slice (some ⟨gv,0,none⟩) 1 1]).run prog W1=.ok (goInt ((1:Nat))) (W1.setCells g (i * 7) vs):=fun ty dc=>
  z29 W1 _ _ ty 81 i0 7 g (i * 7) (n+1 - i) dc ⟨gv,0,none⟩ 1 1 1 vs Tryz.underlying23 hi hz1 (by simp only[Nat.min_def];split <;> omega) (by omega)
   (fun t u hu=>by
    rw[Addr.add_lit,Nat.zero_add,hgv1.cell];exact hu)
   (fun t ht=>by
    rw[show i * 7=i * 7 by omega];exact z0n w1 (o:=i * 7) (m:=7) (by rw[l1];omega) t (by omega))
   hv1
 have HW:=hid hW1;have O2:=hid o2;unfold maxLen at hm;have hz1':¬((i:Int)=(n:Int)):=by omega
 have hw1:IntKind.i64.wrap ((i:Int)+1)=(i:Int)+1:=by rw[IntKind.wrap_i64];omega
 have hw2:IntKind.i64.wrap ((n:Int)+1)=(n:Int)+1:=by rw[IntKind.wrap_i64];omega
 have ht1:((i:Int)+1).toNat=i+1:=by omega
 have ht2:((n:Int)+1).toNat=n+1:=by omega
 have hb0:i≤n:=by omega
 have hb1:(0:Int)≤(i:Int)+1:=by omega
 have hb2:(0:Int)≤(n:Int)+1:=by omega
 have hb3:(n:Int)+1≤(c:Int):=by omega
 have hb4:(i:Int)≤(n:Int)+1:=by omega
 have hb5:(i:Int)≤(n:Int):=by omega
 have hb6:¬(c=i):=by omega
 have hb7:¬(c=i+1):=by omega
 have hb8:¬((c:Int) < (n:Int)+1):=by omega
 clear h h1 hv1 hvl hgv hgv1 cur0 cur w0 l0 w1 l1 o2 hxl hdl hW1 hi hz0 hz1 hz2;go_enter Tryz.func213,Tryz.ntmps213;go_wp2_with (simp only[hov])
 go_region_law (refine z3g rfl _ _ 23 23 rfl _ _ (by simp[Act.eval,Act.put]) (by simp[Act.eval,Act.put]) (hc1 _ _ _) ?_)
 go_wp2_with (at_builtin;refine z2n _ rfl _ _ 23 22 rfl _ _ rfl rfl (hc2 _ _) ?_);go_ret;refine⟨_,rfl,O2.out,?_,.inl rfl⟩;rw[HW.out];exact z23 ((z08 _ _ _).trans (z08 _ _ _))
theorem zvv(n i c g:Nat)(xs vs:List Value)(base gv:Nat)(w:World)(hn:(n+1) * 120≤140737488355328)(hin:i < n)(hnc:n≤c)(hr:c < n+1)(h:w.ownsRow base 81 7 (.slice (some ⟨g,0,none⟩) n c) n xs)(h1:∀u∈xs,u.oneCell'=true)(hv1:∀u∈vs,u.oneCell'=true)(hvl:vs.length=7)(hgv:Whole w gv 81 vs)(hb:base≤w.heap.size):
  Calls prog 213 #[.slice (some ⟨g,0,none⟩) n c,.int .i64 i,.slice (some ⟨gv,0,none⟩) 1 1] w (zch (n+1) (z10 xs vs (i * 7)) base (.slice (some ⟨g,0,none⟩) n c) w):=by
 obtain⟨i0,hi,hz0,hz1,hz2⟩:=info_parts zct;obtain⟨cur0,w0,l0,hx0,_,_,hm,hxl⟩:=z24 h;clear hx0;have hdl:(xs.drop (i * 7)).length=(n - i) * 7:=by rw[List.length_drop,hxl];omega
 have htl:(xs.take (i * 7)).length=i * 7:=by rw[List.length_take,hxl];omega
 have hcell:∀t u,xs[t]? = some u→w.cell? ⟨g,t,none⟩=some u:=fun t u hu=>by
  have hlt:=(List.getElem?_eq_some_iff.1 hu).1;exact(h.cellAt t (by omega)).trans hu
 have hold:(Builtin.firstCells i0.size i (.slice (some ⟨g,0,none⟩) i c)).run prog w.drew=.ok (xs.take (i * 7)).toArray w.drew:=by
  rw[hz1]
  exact run_firstCells_some w.drew 7 i ⟨g,0,none⟩ i c (xs.take (i * 7)) htl (fun t u hu=>by
   rw[Addr.add_lit,Nat.zero_add];rw[List.getElem?_take] at hu;split at hu
   ·exact hcell t u hu
   ·cases hu)
 have hG:grownCap w (n+1) c 81≤maxLen:=grownCap_le_maxLen w _ _ _ (by unfold maxLen;omega);have hGe:n+1≤grownCap w (n+1) c 81:=grownCap_ge w _ _ _
 have hrz:∀ty,(Builtin.append_ #[23,3] ty #[.slice (some ⟨g,0,none⟩) i c,.int .i64 ((n:Int)+1 - (i:Int))]).run prog w =
   .ok (.slice (some ⟨w.heap.size,0,none⟩) (n+1) (grownCap w (n+1) c 81)) (w.drew.alloc (.cells ((xs.take (i * 7)).toArray++Builtin.zeroCells (Value.cells (.agg #[.string ⟨#[]⟩,.int .i64 0,.string ⟨#[]⟩,.slice none 0 0,.slice none 0 0,.slice none 0 0,.int .i64 0])) (n+1 - i)++Builtin.zeroCells (Value.cells (.agg #[.string ⟨#[]⟩,.int .i64 0,.string ⟨#[]⟩,.slice none 0 0,.slice none 0 0,.slice none 0 0,.int .i64 0])) (grownCap w (n+1) c 81 - (n+1))) 81)):=fun ty=>by
  have hik:i+(n+1 - i)=n+1:=by omega
  have h:=Lib.run_append_grow_zeros w 23 3 ty 81 i0 _ .i64 .i64 Tryz.underlying23 Tryz.underlying3 hi hz0 (some ⟨g,0,none⟩) i c _ hold (n+1 - i) (by omega) (by omega) (by omega) (by omega) (by rw[hz2];omega) (by rw[hz2,hik];exact growslice_fits hr hn);rw[hik] at h;rw[show(n:Int)+1 - (i:Int)=((n+1 - i:Nat):Int) by omega];exact h
 generalize grownCap w (n+1) c 81=G at *;obtain⟨zs,hzs⟩:∃zs,zs=(Builtin.zeroCells (Value.cells (.agg #[.string ⟨#[]⟩,.int .i64 0,.string ⟨#[]⟩,.slice none 0 0,.slice none 0 0,.slice none 0 0,.int .i64 0])) (n+1 - i)++Builtin.zeroCells (Value.cells (.agg #[.string ⟨#[]⟩,.int .i64 0,.string ⟨#[]⟩,.slice none 0 0,.slice none 0 0,.slice none 0 0,.int .i64 0])) (G - (n+1))).toList:=⟨_,rfl⟩;have hzl:zs.length=(n+1 - i) * 7+(G - (n+1)) * 7:=by rw[hzs];simp[Builtin.zeroCells,Value.cells];try omega
 have hra:(xs.take (i * 7)).toArray++Builtin.zeroCells (Value.cells (.agg #[.string ⟨#[]⟩,.int .i64 0,.string ⟨#[]⟩,.slice none 0 0,.slice none 0 0,.slice none 0 0,.int .i64 0])) (n+1 - i)++Builtin.zeroCells (Value.cells (.agg #[.string ⟨#[]⟩,.int .i64 0,.string ⟨#[]⟩,.slice none 0 0,.slice none 0 0,.slice none 0 0,.int .i64 0])) (G - (n+1))=(xs.take (i * 7)++zs).toArray:=by
  rw[hzs];simp
 rw[hra] at hrz;obtain⟨W0,hW0⟩:∃W0,W0=w.drew.alloc (.cells (xs.take (i * 7)++zs).toArray 81):=⟨_,rfl⟩;rw[←hW0] at hrz;have wn:Whole W0 w.heap.size 81 (xs.take (i * 7)++zs):=by rw[hW0];exact Whole.new w.drew 81 _
 have hgr:w.grownBy W0 (some g):=by rw[hW0];exact z23 (z8m _ _ _)
 have hgv0:Whole W0 gv 81 vs:=by rw[hW0];exact hgv.drew.alloc _
 have wg0:Whole W0 g 81 cur0:=by rw[hW0];exact w0.drew.alloc _
 have hgl:g≠w.heap.size:=Nat.ne_of_lt w0.lt;obtain⟨cur,w1,l1,o2⟩:=zjr (i:=i) (n:=n) (base:=base) hxl (Nat.le_of_lt hin) hvl hGe hG hb wn (by rw[List.length_append,htl,hzl];omega);rw[show(i+1) * 7=(i+1) * 7 by omega,show i * 7=i * 7 by omega] at o2;rw[show i * 7=i * 7 by omega] at w1
 have hc1:∀ty dc,(Builtin.copy_ #[23,22] ty #[.slice (some ⟨w.heap.size,i * 7,none⟩) (n+1 - i) dc,.slice (some ⟨gv,0,none⟩) 1 1]).run prog W0=.ok (goInt ((1:Nat))) (W0.setCells w.heap.size (i * 7) vs):=fun ty dc=>
  z29 W0 _ _ ty 81 i0 7 w.heap.size (i * 7) (n+1 - i) dc ⟨gv,0,none⟩ 1 1 1 vs Tryz.underlying23 hi hz1 (by simp only[Nat.min_def];split <;> omega) (by omega)
   (fun t u hu=>by
    rw[Addr.add_lit,Nat.zero_add,hgv0.cell];exact hu)
   (fun t ht=>by
    rw[show i * 7=i * 7 by omega];exact z0n wn (o:=i * 7) (m:=7) (by rw[List.length_append,htl,hzl];omega) t (by omega))
   hv1
 obtain⟨W1,hW1⟩:∃W1,W1=W0.setCells w.heap.size (i * 7) vs:=⟨_,rfl⟩;rw[←hW1] at hc1 o2 w1;have hgr1:w.grownBy W1 (some g):=by rw[hW1];exact z3y hgr (z08 _ _ _) (Nat.le_refl _)
 have wg1:Whole W1 g 81 cur0:=by rw[hW1];exact wg0.grown (z08 _ _ _) (by simpa using hgl)
 have hc2:∀ty dc sc,(Builtin.copy_ #[23,23] ty #[.slice (some ⟨w.heap.size,(i+1) * 7,none⟩) (n - i) dc,.slice (some ⟨g,i * 7,none⟩) (n - i) sc]).run prog W1.drew=.ok (goInt ((n - i:Nat))) (W1.drew.setCells w.heap.size ((i+1) * 7) (xs.drop (i * 7))):=fun ty dc sc=>
  z29 W1.drew _ _ ty 81 i0 7 w.heap.size ((i+1) * 7) (n - i) dc ⟨g,i * 7,none⟩ (n - i) sc (n - i) _ Tryz.underlying23 hi hz1 (by simp only[Nat.min_def];split <;> omega) hdl
   (fun t u hu=>by
    rw[List.getElem?_drop] at hu;have h2:=hcell _ u hu;have e1:=wg0.cell (i * 7+t);have e2:=w0.cell (i * 7+t);have e3:=wg1.drew.cell (i * 7+t);rw[Addr.add_lit,show i * 7=i * 7 by omega,e3,←e2];exact h2)
   (fun t ht=>by
    rw[show(i+1) * 7=(i+1) * 7 by omega];exact z0n w1.drew (o:=(i+1) * 7) (m:=(n - i) * 7) (by rw[l1];omega) t (by omega))
   (fun u hu=>h1 u (List.mem_of_mem_drop hu))
 have O2:=hid (show(W1.drew.setCells w.heap.size ((i+1) * 7) (xs.drop (i * 7))).ownsRow base 81 7 (.slice (some ⟨w.heap.size,0,none⟩) (n+1) G) (n+1) (z10 xs vs (i * 7)) by rw[z4t];exact o2);have G2:=hid (show w.grownBy (W1.drew.setCells w.heap.size ((i+1) * 7) (xs.drop (i * 7))) (some g) from z3y (z88 hgr1) (z08 _ _ _) (Nat.le_refl _));obtain⟨W2,hW2⟩:∃W2,W2=W1.drew.setCells w.heap.size ((i+1) * 7) (xs.drop (i * 7)):=⟨_,rfl⟩;rw[←hW2] at hc2 O2 G2;unfold maxLen at hm hG;have hz1':¬((i:Int)=(n:Int)):=by omega
 have hw1:IntKind.i64.wrap ((i:Int)+1)=(i:Int)+1:=by rw[IntKind.wrap_i64];omega
 have hw2:IntKind.i64.wrap ((n:Int)+1)=(n:Int)+1:=by rw[IntKind.wrap_i64];omega
 have hw3:IntKind.i64.wrap ((n:Int)+1 - (i:Int))=(n:Int)+1 - (i:Int):=by rw[IntKind.wrap_i64];omega
 have ht1:((i:Int)+1).toNat=i+1:=by omega
 have hb0:i≤n:=by omega
 have hb1:(0:Int)≤(i:Int)+1:=by omega
 have hb4:(i:Int)≤(n:Int)+1:=by omega
 have hb5:(i:Int)≤(n:Int):=by omega
 have hb6:¬(c=i):=by omega
 have hb7:¬(G=i+1):=by omega
 have hb9:¬(G=i):=by omega
 have hb10:(i:Int)≤(c:Int):=by omega
 have hb8:(c:Int) < (n:Int)+1:=by omega
 clear h h1 hv1 hvl hgv hgv0 cur0 cur w0 l0 w1 l1 o2 hxl hdl hW1 hi hz0 hz1 hz2 htl hcell hold hzs hzl hra hW0 wn hgr wg0 wg1 hgr1 hW2;go_enter Tryz.func213,Tryz.ntmps213
 go_wp2_with (first
  | (at_builtin;refine Lib.wpList_append_run _ rfl _ _ _ _ rfl _ _ rfl rfl _ _ (hrz _) ?_)
  | (at_builtin;refine z2n _ rfl _ _ 23 22 rfl _ _ rfl rfl (hc1 _ _) ?_))
 go_region_law (refine z3g rfl _ _ 23 23 rfl _ _ (by simp[Act.eval,Act.put]) (by simp[Act.eval,Act.put]) (hc2 _ _ _) ?_)
 go_wp2;go_ret;exact⟨_,rfl,O2.out,G2.out,.inr rfl⟩
theorem ztr(n i:Nat)(xs vs:List Value)(base gv:Nat)(v:Value)(w:World)(hn:(n+1) * 120≤140737488355328)(hin:i≤n)(h:w.ownsRow base 81 7 v n xs)(h1:∀u∈xs,u.oneCell'=true)(hv1:∀u∈vs,u.oneCell'=true)(hvl:vs.length=7)(hgv:Whole w gv 81 vs)(hne:v.ownBlock≠some gv)(hb:base≤w.heap.size):
  Calls prog 213 #[v,.int .i64 i,.slice (some ⟨gv,0,none⟩) 1 1] w (zch (n+1) (z10 xs vs (i * 7)) base v w):=by
 rcases Nat.lt_or_ge i n with hlt|hge
 ·obtain⟨A,c,rfl,hA,hc,hm⟩:=z05 h;rcases hA with rfl|⟨g,rfl⟩
  ·exfalso;rcases h.2 with⟨_,h0⟩|⟨g',cap',cur,h',_⟩
   ·omega
   ·cases h'
  ·by_cases hr:n+1≤c
   ·exact zy1 n i c g xs vs base gv w hlt hr h h1 hv1 hvl hgv (by
     rintro rfl;exact hne rfl)
   ·exact zvv n i c g xs vs base gv w hn hlt hc (by omega) h h1 hv1 hvl hgv hb
 ·obtain rfl:i=n:=by omega
  have e:z10 xs vs (i * 7)=xs++vs:=by
   have hl:xs.length=i * 7:=h.1;unfold z10;rw[List.take_of_length_le (by omega),List.drop_of_length_le (by omega),List.append_nil]
  rw[e];exact zus i xs vs base gv v w hn h hv1 hvl hgv hb
structure Rel(P:List Value→Ent→Prop)(rs:List (List Value))(l:List Ent):Prop where
 len:rs.length=l.length
 at_:∀(i:Nat) (e:Ent),l[i]? = some e→∃cs:List Value,rs[i]? = some cs∧P cs e
theorem Rel.nil{P:List Value→Ent→Prop}:Rel P [] []:=⟨rfl,fun i e h=>by simp at h⟩
theorem Rel.cons{P:List Value→Ent→Prop}{c:List Value}{e:Ent}{rs:List (List Value)}{l:List Ent}(h:P c e)(hr:Rel P rs l):Rel P (c :: rs) (e :: l):=
 ⟨by simp[hr.len],fun i x hx=>by
  cases i with
  | zero=>simp at hx;subst hx;exact⟨c,rfl,h⟩
  | succ i=>exact hr.at_ i x (by simpa using hx)⟩
theorem Rel.inv{P:List Value→Ent→Prop}{c:List Value}{e:Ent}{rs:List (List Value)}{l:List Ent}(h:Rel P (c :: rs) (e :: l)):P c e∧Rel P rs l:=by
 obtain⟨d,h1,h2⟩:=h.at_ 0 e rfl;simp at h1;subst h1;exact⟨h2,⟨by simpa using h.len,fun i x hx=>h.at_ (i+1) x (by simpa using hx)⟩⟩
theorem Rel.filter{P:List Value→Ent→Prop}(q:List Value→Bool)(r:Ent→Bool)(hq:∀cs e,P cs e→q cs=r e):∀ {rs:List (List Value)} {l:List Ent},Rel P rs l→Rel P (rs.filter q) (l.filter r)
 | [],[],_=>Rel.nil
 | [],e :: l,h=>absurd h.len (by simp)
 | c :: rs,[],h=>absurd h.len (by simp)
 | c :: rs,e :: l,h=>by
  obtain⟨h1,h2⟩:=h.inv;have ih:=Rel.filter q r hq h2;rw[List.filter_cons,List.filter_cons,hq c e h1];split
  ·exact Rel.cons h1 ih
  ·exact ih
theorem Rel.append{P:List Value→Ent→Prop}:∀ {rs:List (List Value)} {l:List Ent} {rs':List (List Value)} {l':List Ent},Rel P rs l→Rel P rs' l'→Rel P (rs++rs') (l++l')
 | [],[],_,_,_,h=>h
 | [],e :: l,_,_,h,_=>absurd h.len (by simp)
 | c :: rs,[],_,_,h,_=>absurd h.len (by simp)
 | c :: rs,e :: l,_,_,h,h'=>Rel.cons h.inv.1 (Rel.append h.inv.2 h')
theorem Rel.take{P:List Value→Ent→Prop}(n:Nat){rs:List (List Value)}{l:List Ent}(h:Rel P rs l):Rel P (rs.take n) (l.take n):=
 ⟨by simp[h.len],fun i e he=>by
  rw[List.getElem?_take] at he;split at he
  ·rename_i hi;obtain⟨cs,h1,h2⟩:=h.at_ i e he;exact⟨cs,by rw[List.getElem?_take_of_lt hi];exact h1,h2⟩
  ·cases he⟩
theorem Rel.drop{P:List Value→Ent→Prop}(n:Nat){rs:List (List Value)}{l:List Ent}(h:Rel P rs l):Rel P (rs.drop n) (l.drop n):=
 ⟨by simp[h.len],fun i e he=>by
  rw[List.getElem?_drop] at he;obtain⟨cs,h1,h2⟩:=h.at_ _ e he;exact⟨cs,by rw[List.getElem?_drop];exact h1,h2⟩⟩
theorem Rel.imp{P Q:List Value→Ent→Prop}{rs:List (List Value)}{l:List Ent}(h:Rel P rs l)(hi:∀cs e,P cs e→Q cs e):Rel Q rs l:=
 ⟨h.len,fun i e he=>by
  obtain⟨cs,h1,h2⟩:=h.at_ i e he;exact⟨cs,h1,hi _ _ h2⟩⟩
theorem Rel.mem{P:List Value→Ent→Prop}{rs:List (List Value)}{l:List Ent}(h:Rel P rs l){c:List Value}(hc:c∈rs):∃e,e∈l∧P c e:=by
 obtain⟨i,hi⟩:=List.getElem?_of_mem hc;have hlt:=(List.getElem?_eq_some_iff.1 hi).1;obtain⟨d,h1,h2⟩:=h.at_ i _ (List.getElem?_eq_getElem (show i < l.length by rw[←h.len];exact hlt));rw[hi] at h1;cases h1;exact⟨_,List.getElem_mem _,h2⟩
theorem zgm{w:World}{base e size n:Nat}{v:Value}{xs:List Value}(h:w.ownsRow base e size v n xs):∀k,k∈z2f v→k < w.heap.size:=fun k hk=>by
 unfold z2f at hk;split at hk
 ·simp at hk;subst hk;exact(h.lt _ rfl).2
 ·cases hk
def zzk(cs:List Value):Int:=match cs[6]? with|some (Value.int _ n)=>n|_=>0
theorem zz1{w:World}{base:Nat}{cs:List Value}{e:Ent}(h:z2o w base cs e):zzk cs=e.til:=by obtain⟨_,_,_,_,_,_,rfl,_⟩:=h;rfl
theorem zhr{w:World}{base:Nat}{cs:List Value}{e:Ent}(h:z2o w base cs e):zfb cs:=by obtain⟨_,_,_,_,_,_,rfl,_⟩:=h;exact⟨_,_,_,_,_,_,_,_,_,_,_,_,_,rfl⟩
def z9r(l:List Ent)(now:Int):List Ent:=l.filter fun e=>!z4o e.til now
def zrt(l:List Ent)(base:Nat)(v:Value)(w:World)(r:Ending)(w':World):Prop:=∃v',r=.returned v'∧z1s w' base v' l∧Fr (z2f v) w w'
theorem zn3(x:List Value)(hx:zfb x)(now:Int)(g:Nat)(w:World)(hg:w.cell? ⟨g,0,none⟩=some (.int .i64 now)):
  Calls prog 217 (#[.agg x.toArray]++#[.pointer (some ⟨g,0,none⟩)]) w fun e w'=>e=.returned (.bool (z4o (zzk x) now))∧Fr [] w w':=by
 obtain⟨sk,sn,st,A1,n1,d1,A2,n2,d2,A3,n3,d3,su,rfl⟩:=hx;have hgl:=World.block_lt_of_cell? w _ hg;have F1:=hid ((Fr.refl [] w).alloc (.cells #[.string sk,.int .i64 sn,.string st,.slice A1 n1 d1,.slice A2 n2 d2,.slice A3 n3 d3,.int .i64 su] 81));have c1:=F1.out.cell hg (by simp);have GO:=hid (fun W=>zce su now W);rw[show zzk [.string sk,.int .i64 sn,.string st,.slice A1 n1 d1,.slice A2 n2 d2,.slice A3 n3 d3,.int .i64 su]=su from rfl];generalize z4o su now=b at *;go_enter Tryz.func217,Tryz.ntmps217;go_wp2_with fail;refine(GO.out _).mono ?_;rintro e w1 ⟨rfl,rfl⟩;go_wp2;go_ret;exact⟨rfl,F1.out⟩
theorem zh6(l:List Ent)(v:Value)(now:Int)(base:Nat)(w:World)(hl:l.length≤1000000)(h:z1s w base v l):
  Calls prog 167 #[v,.int .i64 now] w (zrt (z9r l now) base v w):=by
 have F1:=hid ((Fr.refl [] w).alloc (.cells #[.int .i64 now] 3));have W1:=hid (Whole.new w 3 [.int .i64 now]);obtain⟨rs,h1,h2,h3⟩:=h.fr F1.out;obtain⟨A,c,rfl,-⟩:=z05 h3;have R:=hid (show Rel (z2o (w.alloc (.cells #[.int .i64 now] 3)) base) rs l from⟨h1,h2⟩)
 have hgl:∀k,k∈z2f (.slice A l.length c)→k < w.heap.size:=fun k hk=>by
  obtain⟨rs0,_,_,h30⟩:=h;exact zgm h30 k hk
 have DF:=hid (zsj 217 #[.pointer (some ⟨w.heap.size,0,none⟩)] (z1t Tryz.func217 (by kernel_rfl) rfl) (fun x=>z4o (zzk x) now) rs base (.slice A l.length c) (w.alloc (.cells #[.int .i64 now] 3)) (fun c hc=>by
   obtain⟨e,_,he⟩:=R.out.mem hc;exact zhr he) (fun W x hx hW=>by
   obtain⟨e,_,he⟩:=R.out.mem hx;exact zn3 x (zhr he) now w.heap.size W (hW.cell (W1.out.cell 0) (fun hm=>by have:=hgl _ hm;simp at this))) (by omega) (by rw[h1];exact h3))
 have H3:=hid h3;clear h h1 h2 h3;go_enter Tryz.func167,Tryz.ntmps167;go_wp2_with fail;refine DF.out.mono ?_;rintro e w1 ⟨v',rfl,ho,f1,hb⟩;have HO:=hid ho;have F2:=hid f1;clear ho f1 hb;go_wp2;go_ret;have R2:=Rel.filter (fun x=>!z4o (zzk x) now) (fun e=>!z4o e.til now) (fun cs e h=>by rw[zz1 h]) R.out;have R3:=R2.imp (fun cs e h=>h.row H3.out z2t F2.out);refine⟨_,rfl,⟨_,R3.len,R3.at_,?_⟩,F1.out.up.trans F2.out⟩;have:=HO.out;rw[R3.len] at this;exact this
end Go.Proofs.YtmalkppcahogjaaGreatDoor
namespace Go.Proofs.YtmalkppcahogjaaGreatDoor
open Lib (hid)
open Go.Proofs.Tryz (prog)
def zgy{α:Type}(l:List α)(p:α)(j:Nat):List α:=l.take j++p :: l.drop j
theorem zbn{α:Type}(l:List α)(p:α){j:Nat}(h:j≤l.length):(zgy l p j).length=l.length+1:=by
 unfold zgy;rw[List.length_append,List.length_cons,List.length_take,List.length_drop];omega
end Go.Proofs.YtmalkppcahogjaaGreatDoor
namespace Go.Proofs.YtmalkppcahogjaaGreatDoor
open Lib (hid)
open Go.Proofs.Tryz (prog)
open Go.RowKit
def z50(l:List Ent)(s:ByteArray):List Ent:=l.filter fun e=>decide (e.key≠s)
theorem zpk(l:List Ent)(s:ByteArray):(z50 l s).length≤l.length:=List.length_filter_le _ _
theorem zr7{l:List Ent}(h:rises (ltK Ent.key) l=true)(s:ByteArray):rises (ltK Ent.key) (z50 l s)=true:=z3q ((z3b (z58 Ent.key) h).filter _)
theorem zk7{l:List Ent}(hr:rises (ltK Ent.key) l=true){s:ByteArray}(h:z5y Ent.key l s=false):z50 l s=l:=by
 unfold z50;rw[List.filter_eq_self];intro e he;refine decide_eq_true fun hk=>?_;obtain⟨j,hj⟩:=List.getElem?_of_mem he;have:=zcm Ent.key hr hj;rw[hk,h] at this;cases this
theorem zkn{l:List Ent}(hr:rises (ltK Ent.key) l=true){s:ByteArray}(h:z5y Ent.key l s=true):z50 l s=l.take (z1x Ent.key l s)++l.drop (z1x Ent.key l s+1):=by
 obtain⟨e,he,rfl⟩:=(z32 Ent.key).1 h;have hk:=(List.getElem?_eq_some_iff.1 he).1
 have e1:l=l.take (z1x Ent.key l e.key)++e :: l.drop (z1x Ent.key l e.key+1):=by
  have h1:l.drop (z1x Ent.key l e.key)=e :: l.drop (z1x Ent.key l e.key+1):=by
   rw[List.drop_eq_getElem_cons hk];congr 1;rw[List.getElem?_eq_getElem hk] at he;exact Option.some.inj he
  rw[←h1,List.take_append_drop]
 have no:∀(i:Nat) (a:Ent),l[i]? = some a→i≠z1x Ent.key l e.key→a.key≠e.key:=fun i a ha hi hk=>by
  have h1:=zf4 Ent.key hr ha;rw[hk] at h1;exact hi h1.symm
 generalize z1x Ent.key l e.key=k at *;unfold z50
 conv=>lhs;rw[e1]
 rw[List.filter_append,List.filter_cons,if_neg (by simp)];congr 1
 ·rw[List.filter_eq_self];intro a ha;obtain⟨i,hi⟩:=List.getElem?_of_mem ha;rw[List.getElem?_take] at hi;split at hi
  ·exact decide_eq_true (no i a hi (by omega))
  ·cases hi
 ·rw[List.filter_eq_self];intro a ha;obtain⟨i,hi⟩:=List.getElem?_of_mem ha;rw[List.getElem?_drop] at hi;exact decide_eq_true (no _ a hi (by omega))
theorem zzv{l:List Ent}{s:ByteArray}{k:Nat}(h1:∀(i:Nat) (a:Ent),i < k→l[i]? = some a→z4k a.key s < 0)(h2:∀a,l[k]? = some a→¬z4k a.key s < 0)(hk:k≤l.length):z1x Ent.key l s=k:=by
 rcases Nat.lt_trichotomy (z1x Ent.key l s) k with h|h|h
 ·obtain⟨a,ha⟩:∃a,l[z1x Ent.key l s]? = some a:=⟨_,List.getElem?_eq_getElem (by omega)⟩;exact absurd (h1 _ a h ha) (zdp Ent.key ha)
 ·exact h
 ·have hl:=z5t Ent.key l s;obtain⟨a,ha⟩:∃a,l[k]? = some a:=⟨_,List.getElem?_eq_getElem (by omega)⟩;exact absurd (z7h Ent.key h ha) (h2 a ha)
theorem zyr{l:List Ent}(hr:rises (ltK Ent.key) l=true)(s:ByteArray):z1x Ent.key (z50 l s) s=z1x Ent.key l s:=by
 have hle:=z5t Ent.key l s;rcases hh:z5y Ent.key l s with _|_
 ·rw[zk7 hr hh]
 ·rw[zkn hr hh];obtain⟨e,he,hk⟩:=(z32 Ent.key).1 hh;have hlt:=(List.getElem?_eq_some_iff.1 he).1;refine zzv (fun i a hi ha=>?_) (fun a ha=>?_) (by rw[List.length_append,List.length_take];omega)
  ·rw[List.getElem?_append_left (by rw[List.length_take];omega),List.getElem?_take,if_pos hi] at ha;exact z7h Ent.key hi ha
  ·rw[List.getElem?_append_right (by rw[List.length_take];omega),List.length_take,Nat.min_eq_left hle,Nat.sub_self,List.getElem?_drop] at ha;exact zga Ent.key hr (by omega) ha
def zob(l:List Ent)(e:Ent):List Ent:=zgy l e (z1x Ent.key l e.key)
def zn7(l:List Ent)(now:Int)(s:ByteArray)(x:Itm)(u:Int):List Ent:=if 16 < (zob (z50 l s) ⟨s,x,u⟩).length then z9r (zob (z50 l s) ⟨s,x,u⟩) now else zob (z50 l s) ⟨s,x,u⟩
def z28(l:List Ent)(now:Int)(s:ByteArray)(x:Itm)(u:Int):Int:=if z0t x=true then 0 else if 16 < (zn7 l now s x u).length then 2 else 0
def z8g(l:List Ent)(now:Int)(s:ByteArray)(x:Itm)(u:Int):List Ent:=if z0t x=true then z50 l s else if 16 < (zn7 l now s x u).length then [] else zn7 l now s x u
theorem zj7{w:World}{base:Nat}{rs:List (List Value)}{l:List Ent}(h:Rel (z2o w base) rs l):∀c∈rs,c.length=7:=fun c hc=>by
 obtain⟨e,_,he⟩:=h.mem hc;exact he.len
theorem zll{w:World}{base:Nat}{rs:List (List Value)}{l:List Ent}(h:Rel (z2o w base) rs l):∀u∈rs.flatten,u.oneCell'=true:=fun u hu=>by
 obtain⟨c,hc,huc⟩:=List.mem_flatten.1 hu;obtain⟨e,_,A1,c1,A2,c2,A3,c3,rfl,_⟩:=h.mem hc;exact zff _ _ _ _ _ _ _ u huc
def zm6(l:List Ent)(base:Nat)(v:Value)(w:World)(r:Ending)(w':World):Prop:=∃v',r=.returned v'∧z1s w' base v' l∧Fr (z2f v) w w'∧∀k,k∈z2f v'→k∈z2f v∨w.heap.size≤k
theorem zcq{v v':Value}(h:v'.ownBlock=v.ownBlock):z2f v'=z2f v:=by
 unfold Value.ownBlock at h;unfold z2f;split at h <;> split at h <;> simp_all
theorem zrq(l:List Ent)(k:Nat)(base:Nat)(v:Value)(w:World)(hl:l.length≤1000000)(hk:k < l.length)(h:z1s w base v l):
  Calls prog 212 #[v,.int .i64 k,.int .i64 (k+1)] w (zm6 (l.take k++l.drop (k+1)) base v w):=by
 obtain⟨rs,h1,h2,h3⟩:=h;have R:Rel (z2o w base) rs l:=⟨h1,h2⟩;have a7:=zj7 R;have D:=zu0 l.length k (k+1) rs.flatten base v w (by omega) (by omega) (by omega) h3 (zll R);rw[show((k+1:Nat):Int)=(k:Int)+1 from by omega] at D;refine D.mono ?_;rintro e w1 ⟨v',rfl,ho,hg,hb⟩;have hf:=z3p hg;rw[z8e 7 rs k a7,zav 7 rs (k+1) a7,←List.flatten_append] at ho;have R2:=((R.take k).append (R.drop (k+1))).imp (fun cs e he=>he.row h3 z2t hf);refine⟨v',rfl,⟨_,R2.len,R2.at_,?_⟩,hf,fun q hq=>.inl (by rw[zcq hb] at hq;exact hq)⟩;have e:(l.take k++l.drop (k+1)).length=k+(l.length - (k+1)):=by rw[List.length_append,List.length_take,List.length_drop];omega
 rw[e];exact ho
theorem zyt(l:List Ent)(e:Ent)(cs:List Value)(k gv:Nat)(base:Nat)(v:Value)(w:World)(hl:l.length≤1000000)(hk:k≤l.length)(h:z1s w base v l)(he:z2o w base cs e)(hgv:Whole w gv 81 cs)(hne:v.ownBlock≠some gv)(hb:base≤w.heap.size):
  Calls prog 213 #[v,.int .i64 k,.slice (some ⟨gv,0,none⟩) 1 1] w (zm6 (zgy l e k) base v w):=by
 obtain⟨rs,h1,h2,h3⟩:=h;have R:Rel (z2o w base) rs l:=⟨h1,h2⟩;have a7:=zj7 R
 have one:∀u∈cs,u.oneCell'=true:=by
  obtain⟨A1,c1,A2,c2,A3,c3,rfl,_⟩:=he;exact zff _ _ _ _ _ _ _
 refine(ztr l.length k rs.flatten cs base gv v w (by omega) hk h3 (zll R) one he.len hgv hne hb).mono ?_;rintro r w1 ⟨v',rfl,ho,hg,hbl⟩;have hf:=z3p hg;unfold z10 at ho;rw[z8e 7 rs k a7,zav 7 rs k a7,show(rs.take k).flatten++cs++(rs.drop k).flatten=(rs.take k++cs :: rs.drop k).flatten from by simp] at ho;have R2:=((R.take k).append (Rel.cons he (R.drop k))).imp (fun cs e he=>he.row h3 z2t hf);refine⟨v',rfl,⟨_,R2.len,R2.at_,?_⟩,hf,fun q hq=>?_⟩
 ·rw[zbn l e hk];exact ho
 ·rcases hbl with h5|h5
  ·rw[zcq h5] at hq;exact .inl hq
  ·refine .inr ?_;unfold z2f at hq;split at hq
   ·simp at hq;subst hq;simp[Value.ownBlock] at h5;omega
   ·cases hq
def zxa(l:List Ent)(c:Int)(base:Nat)(v:Value)(w:World)(r:Ending)(w':World):Prop:=∃u,r=.returned (.tuple #[u,.int .i64 c])∧z1s w' base u l∧Fr (z2f v) w w'
theorem zdl{w w':World}{base base' T size n:Nat}{v xv:Value}{xs:List Value}{x:Itm}(h:z0q w base xv x)(ho:w.ownsRow base' T size v n xs)(hT:9≠T∧108≠T∧113≠T)(hf:Fr (z2f v) w w'):z0q w' base xv x:=by
 obtain⟨L1,L2,L3,he,h1,h2,h3⟩:=h;exact⟨L1,L2,L3,he,z0p h1 hf (z40 h1 ho hT.1),z0p h2 hf (z40 h2 ho hT.2.1),z0p h3 hf (z40 h3 ho hT.2.2)⟩
def CutR(l':List Ent)(base:Nat)(v:Value)(xv:Value)(x:Itm)(cells:List Value)(w:World)(sv:Value)(wx:World):Prop:=
 ∃A c,sv=.slice A l'.length c∧z1s wx base (.slice A l'.length c) l'∧Fr (z2f v) w wx∧(∀k,k∈z2f (.slice A l'.length c)→k∈z2f v∨w.heap.size≤k)∧Whole wx w.heap.size 65 cells∧z0q wx base xv x
def zzz(l':List Ent)(base:Nat)(v:Value)(w:World)(sv:Value)(wx:World):Prop:=
 ∃A c,sv=.slice A l'.length c∧z1s wx base (.slice A l'.length c) l'∧Fr (z2f v) w wx
theorem zba(l:List Ent)(v:Value)(now:Int)(s:ByteArray)(x:Itm)(xv:Value)(u:Int)(base:Nat)(w:World)(hr:rises (ltK Ent.key) l=true)(hl:l.length≤1000)(hsx:x.Small)(h:z1s w base v l)(hx:z0q w base xv x)(hb:base≤w.heap.size):
  Calls prog 163 #[v,.int .i64 now,.string s,xv,.int .i64 u] w (zxa (z8g l now s x u) (z28 l now s x u) base v w):=by
 obtain⟨A,c,rfl⟩:=h.form;obtain⟨X1,x1,X2,x2,X3,x3,rfl⟩:=hx.form;have D0:=hid (BX.new w (.int .i64 x.kind) (.string x.text) (.slice X1 x.list.length x1) (.slice X2 x.pairs.length x2) (.slice X3 x.scores.length x3));have FD:=hid (fun W (hW:Fr [] w W)=>z9s l s A c w.heap.size W hr (by omega) hW.size ((h.v.fr hW (Nat.le_refl _) (by simp))));unfold z4c at FD;have HO:=hid h;have HX:=hid hx;have HSX:=hid hsx;have HKL:=hid (zyr hr s);have HKE:=hid (z5t Ent.key (z50 l s) s);have LOFF:=zpk l s
 have HLT:∀k,k∈z2f (.slice A l.length c)→k < w.heap.size:=fun k hk=>by
  obtain⟨rs0,_,_,h30⟩:=h;exact zgm h30 k hk
 have HLT2:=hid HLT;have HR:=hid hr;clear h hx hsx HLT hr;go_enter Tryz.func163,Tryz.ntmps163;go_wp2_with fail;refine(FD.out _ D0.out.f).mono ?_;rintro e1 w1 ⟨rfl,f1⟩;have D1:=hid (D0.out.go f1);have HO1:=hid (HO.out.fr D1.out.f);have HX1:=hid (HX.out.go D1.out.f);clear f1
 go_upto_if 20 with fail
 go_cut [0,13] (fun sv _ wx=>CutR (z50 l s) base (.slice A l.length c) (.agg #[.int .i64 x.kind,.string x.text,.slice X1 x.list.length x1,.slice X2 x.pairs.length x2,.slice X3 x.scores.length x3]) x [.int .i64 x.kind,.string x.text,.slice X1 x.list.length x1,.slice X2 x.pairs.length x2,.slice X3 x.scores.length x3] w sv wx)
 case first=>
  rcases hh:z5y Ent.key l s with _|_
  ·have E:=hid (zk7 HR.out hh);go_wp2;go_meet
   case rel=>
    rw[E.out];exact⟨A,c,rfl,HO1.out,D1.out.f.up,fun k hk=>.inl hk,D1.out.b,HX1.out⟩
  ·have E:=hid (zkn HR.out hh)
   have hkl:z1x Ent.key l s < l.length:=by
    obtain⟨e,he,_⟩:=(z32 Ent.key).1 hh;exact(List.getElem?_eq_some_iff.1 he).1
   have DE:=hid (zrq l (z1x Ent.key l s) base (.slice A l.length c) w1 (by omega) hkl HO1.out);rw[←E.out] at DE;generalize z1x Ent.key l s=k at *;go_wp2_with fail;refine DE.out.mono ?_;rintro e2 w2 ⟨v2,rfl,ho,f2,hb2⟩;obtain⟨A2,c2,hv2⟩:=ho.form
   have HH:=hid (show CutR (z50 l s) base (.slice A l.length c) (.agg #[.int .i64 x.kind,.string x.text,.slice X1 x.list.length x1,.slice X2 x.pairs.length x2,.slice X3 x.scores.length x3]) x [.int .i64 x.kind,.string x.text,.slice X1 x.list.length x1,.slice X2 x.pairs.length x2,.slice X3 x.scores.length x3] w v2 w2 from by
    subst hv2;obtain⟨rs1,_,_,hr1⟩:=HO1.out;exact⟨A2,c2,rfl,ho,D1.out.f.up.trans f2,fun q hq=>(hb2 q hq).imp id (fun h=>Nat.le_trans D1.out.f.size h),D1.out.b.fr f2 (fun hm=>by have:=HLT2.out _ hm;omega),zdl HX1.out hr1 z2t f2⟩)
   clear ho f2 hb2 hv2;go_wp2;go_meet
   case rel=>exact HH.out
 case rest=>
  obtain⟨A2,c2,rfl,ho,f2,hb2,hbx,hix⟩:=hcut;have HO2:=hid ho;have F2:=hid f2;have HB2:=hid hb2;have BX2:=hid hbx;have HX2:=hid hix;have hz2:=hbx.lt;clear ho f2 hb2 hbx hix FD HO HO1 HX HX1 D0 D1;obtain⟨d0,d1,d2,d3,d4⟩:=five BX2.out;have NO:=hid (z71 x (.agg #[.int .i64 x.kind,.string x.text,.slice X1 x.list.length x1,.slice X2 x.pairs.length x2,.slice X3 x.scores.length x3]) _ _ HSX.out (Nat.le_refl _) HX2.out.item);by_cases hn:z0t x=true
  ·have E1:=hid (show z8g l now s x u=z50 l s from if_pos hn);have E2:=hid (show z28 l now s x u=0 from if_pos hn);rw[hn] at NO;clear hn;go_wp2_with fail;refine NO.out.mono ?_;rintro e3 w3 ⟨rfl,f3⟩;have F3:=hid f3;clear f3;go_wp2;go_ret2;rw[E1.out,E2.out];exact⟨_,rfl,HO2.out.fr F3.out,F2.out.trans F3.out.up⟩
  ·have hn':z0t x=false:=by simpa using hn
   have E1:=hid (show z8g l now s x u=if 16 < (zn7 l now s x u).length then [] else zn7 l now s x u from if_neg hn);have E2:=hid (show z28 l now s x u=if 16 < (zn7 l now s x u).length then 2 else 0 from if_neg hn);rw[hn'] at NO;clear hn hn';go_wp2_with fail;refine NO.out.mono ?_;rintro e3 w3 ⟨rfl,f3⟩;have F3:=hid (F2.out.trans f3.up);have HO3:=hid (HO2.out.fr f3);have BX3:=hid (BX2.out.fr f3 (by simp));have HX3:=hid (HX2.out.go f3);have hz3:=f3.size;clear f3 d0 d1 d2 d3 d4;obtain⟨d0,d1,d2,d3,d4⟩:=five BX3.out;have G3:=hid ((Fr.refl [] w3).alloc (.cells #[.string s,.int .i64 x.kind,.string x.text,.slice X1 x.list.length x1,.slice X2 x.pairs.length x2,.slice X3 x.scores.length x3,.int .i64 u] 81));have W3:=hid (Whole.new w3 81 [.string s,.int .i64 x.kind,.string x.text,.slice X1 x.list.length x1,.slice X2 x.pairs.length x2,.slice X3 x.scores.length x3,.int .i64 u])
   have IN:=hid (zyt (z50 l s) ⟨s,x,u⟩ [.string s,.int .i64 x.kind,.string x.text,.slice X1 x.list.length x1,.slice X2 x.pairs.length x2,.slice X3 x.scores.length x3,.int .i64 u] (z1x Ent.key (z50 l s) s) w3.heap.size base (.slice A2 (z50 l s).length c2) (w3.alloc (.cells #[.string s,.int .i64 x.kind,.string x.text,.slice X1 x.list.length x1,.slice X2 x.pairs.length x2,.slice X3 x.scores.length x3,.int .i64 u] 81)) (by omega) HKE.out (HO3.out.fr G3.out) (by
    obtain⟨L1,L2,L3,hv,o1,o2,o3⟩:=HX3.out.go G3.out;cases hv;exact⟨_,_,_,_,_,_,rfl,o1,o2,o3⟩) W3.out (by
    intro hq;obtain⟨rs1,_,_,hr1⟩:=HO3.out;have:=(hr1.lt _ hq).2;omega) (by simp;omega))
   rw[show zgy (z50 l s) ⟨s,x,u⟩ (z1x Ent.key (z50 l s) s)=zob (z50 l s) ⟨s,x,u⟩ from rfl,HKL.out] at IN;have HL2:=hid (show(zob (z50 l s) ⟨s,x,u⟩).length=(z50 l s).length+1 from zbn _ _ (z5t _ _ _));have EP:=hid (show zn7 l now s x u=if 16 < (zob (z50 l s) ⟨s,x,u⟩).length then z9r (zob (z50 l s) ⟨s,x,u⟩) now else zob (z50 l s) ⟨s,x,u⟩ from rfl);generalize z1x Ent.key l s=k at *;generalize z50 l s=lo at *;generalize zob lo ⟨s,x,u⟩=L2 at *;go_wp2_with fail;refine IN.out.mono ?_;rintro e4 w4 ⟨v4,rfl,ho4,f4,hb4⟩;obtain⟨A4,c4,rfl⟩:=ho4.form;have HO4:=hid ho4;have F4:=hid ((F3.out.trans G3.out.up).step f4 (fun q hq=>HB2.out q hq));have HB4:=hid (fun q hq=>(hb4 q hq).elim (fun h=>HB2.out q h) (fun h=>Or.inr (Nat.le_trans (Nat.le_trans F3.out.size G3.out.size) h)));have hl2:L2.length≤1001:=by have:=HL2.out;omega
   clear ho4 f4 hb4 d0 d1 d2 d3 d4 HO3 HO2;generalize zn7 l now s x u=P2 at *
   go_upto_if 39 with fail
   go_cut [0,39] (fun sv _ wx=>zzz P2 base (.slice A l.length c) w sv wx)
   case first=>
    by_cases h16:16 < L2.length
    ·have E3:=hid (EP.out.trans (if_pos h16));have SW:=hid (zh6 L2 (.slice A4 L2.length c4) now base w4 (by omega) HO4.out);rw[←E3.out] at SW;have q16:(L2.length:Int) > 16:=by omega
     clear h16 E3;go_wp2_with fail;refine SW.out.mono ?_;rintro e5 w5 ⟨v5,rfl,ho5,f5⟩;obtain⟨A5,c5,rfl⟩:=ho5.form;have HH:=hid (show zzz P2 base (.slice A l.length c) w (.slice A5 P2.length c5) w5 from⟨A5,c5,rfl,ho5,F4.out.step f5 (fun q hq=>HB4.out q hq)⟩);clear ho5 f5;go_wp2;go_meet
     case rel=>exact HH.out
    ·have E3:=hid (EP.out.trans (if_neg h16));have q16:¬(L2.length:Int) > 16:=by omega
     clear h16;go_wp2;go_meet
     case rel=>
      rw[E3.out];exact⟨A4,c4,rfl,HO4.out,F4.out⟩
   case rest=>
    obtain⟨A5,c5,rfl,ho5,f5⟩:=hcut;have HO5:=hid ho5;have F5:=hid f5;clear ho5 f5 EP;by_cases h17:16 < P2.length
    ·have E3:=hid (E1.out.trans (if_pos h17));have E4:=hid (E2.out.trans (if_pos h17));have q17:(P2.length:Int) > 16:=by omega
     clear h17;go_wp2;go_ret2;rw[E3.out,E4.out];exact⟨_,rfl,z1s.nil _ _,F5.out⟩
    ·have E3:=hid (E1.out.trans (if_neg h17));have E4:=hid (E2.out.trans (if_neg h17));have q17:¬(P2.length:Int) > 16:=by omega
     clear h17;go_wp2;go_ret2;rw[E3.out,E4.out];exact⟨_,rfl,HO5.out,F5.out⟩
end Go.Proofs.YtmalkppcahogjaaGreatDoor
