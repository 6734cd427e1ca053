/- Contracts; no condition but each theorem's own. -/
import Derived.Test.YtmkhmejempcimaaGreatDoorSlU7
import Derived.Test.YtmkhmejempcimaaGreatDoorSlU9
set_option linter.unusedVariables false
set_option linter.unusedSimpArgs false
set_option maxHeartbeats 8000000
set_option maxRecDepth 100000
namespace Go.Proofs.YtmkhmejempcimaaGreatDoor
open Lib (hid)
open Go.Proofs.Tryz (prog)
open Go.RowKit
def zmd(x:Itm)(w wx:World):Prop:=∃S1 s1 S2 s2 S3 s3,
 wx.ownsRow (w.heap.size+2) 9 1 (.slice S1 x.list.length s1) x.list.length (z04 x.list)∧wx.ownsRow (w.heap.size+2) 108 2 (.slice S2 x.pairs.length s2) x.pairs.length (z0t x.pairs)∧wx.ownsRow (w.heap.size+2) 110 2 (.slice S3 x.scores.length s3) x.scores.length (z0h x.scores) ∧
 BO w 1 [.int .i64 x.kind,.string x.text,.slice S1 x.list.length s1,.slice S2 x.pairs.length s2,.slice S3 x.scores.length s3] wx
theorem zhp{x:Itm}{w w3:World}{A1 A2 A3 S1 S2 S3:Option Addr}{c1 c2 c3 s1 s2 s3 b1 b2 b3:Nat}(h:BO w 1 [.int .i64 x.kind,.string x.text,.slice A1 x.list.length c1,.slice A2 x.pairs.length c2,.slice A3 x.scores.length c3] w3)
  (o1:w3.ownsRow b1 9 1 (.slice S1 x.list.length s1) x.list.length (z04 x.list)) (o2:w3.ownsRow b2 108 2 (.slice S2 x.pairs.length s2) x.pairs.length (z0t x.pairs)) (o3:w3.ownsRow b3 110 2 (.slice S3 x.scores.length s3) x.scores.length (z0h x.scores))
  (h1:w.heap.size+2≤b1) (h2:w.heap.size+2≤b2) (h3:w.heap.size+2≤b3):
  zmd x w (((w3.setCell ⟨w.heap.size,2,none⟩ (.slice S1 x.list.length s1)).setCell ⟨w.heap.size,3,none⟩ (.slice S2 x.pairs.length s2)).setCell ⟨w.heap.size,4,none⟩ (.slice S3 x.scores.length s3)):=by
 have kp:∀ {e size n:Nat} {v:Value} {xs:List Value} {b:Nat} {u1 u2 u3:Value},w.heap.size+2≤b→w3.ownsRow b e size v n xs→(((w3.setCell ⟨w.heap.size,2,none⟩ u1).setCell ⟨w.heap.size,3,none⟩ u2).setCell ⟨w.heap.size,4,none⟩ u3).ownsRow (w.heap.size+2) e size v n xs:=fun hb ho=>
  z09 (z03 (z03 (z03 ho (by show w.heap.size < _;omega) _) (by show w.heap.size < _;omega) _) (by show w.heap.size < _;omega) _) hb
 refine⟨S1,s1,S2,s2,S3,s3,kp h1 o1,kp h2 o2,kp h3 o3,?_,?_,?_⟩
 ·have:=((h.b.set_ 2 (.slice S1 x.list.length s1)).set_ 3 (.slice S2 x.pairs.length s2)).set_ 4 (.slice S3 x.scores.length s3);exact this
 ·exact((h.o.far (by show w.heap.size+1≠w.heap.size;omega) _).far (by show w.heap.size+1≠w.heap.size;omega) _).far (by show w.heap.size+1≠w.heap.size;omega) _
 ·exact((h.f.setCell (p:=⟨w.heap.size,2,none⟩) (.inr (Nat.le_refl _)) _).setCell (p:=⟨w.heap.size,3,none⟩) (.inr (Nat.le_refl _)) _).setCell (p:=⟨w.heap.size,4,none⟩) (.inr (Nat.le_refl _)) _
theorem z5k(x:Itm)(v:Value)(w:World)(B:Nat)(hs:x.Small)(l1:x.list.length≤1000000)(l2:x.pairs.length≤1000000)(l3:x.scores.length≤1000000)(hB:B≤w.heap.size)(h:z1m w B v x):
  Calls prog 39 #[v] w (OwnI w.heap.size x w):=by
 obtain⟨A1,c1,A2,c2,A3,c3,rfl,h1,h2,h3⟩:=h;have CS:=hid (fun W (hW:Fr [] w W)=>z6s x.list.length (z04 x.list) A1 c1 W B l1 (Nat.le_trans hB hW.size) (h1.fr hW hB (by simp)) (z3b _));have CP:=hid (fun W (hW:Fr [] w W)=>zg2 x.pairs.length (z0t x.pairs) A2 c2 W B l2 (Nat.le_trans hB hW.size) (h2.fr hW hB (by simp)) (zjx _));have CC:=hid (fun W (hW:Fr [] w W)=>zgc x.scores.length (z0h x.scores) A3 c3 W B l3 (Nat.le_trans hB hW.size) (h3.fr hW hB (by simp)) (zgd _));have D0:=hid (BO.new w (.int .i64 x.kind) (.string x.text) (.slice A1 x.list.length c1) (.slice A2 x.pairs.length c2) (.slice A3 x.scores.length c3));obtain⟨d0,d1,d2,d3,d4⟩:=five D0.out.b;clear h1 h2 h3 hs;go_enter Tryz.func39,Tryz.ntmps39;go_wp2_with fail;go_cut [] (fun wx=>zmd x w wx)
 case first=>
  go_region_law (first
   | (go_simp;go_at_call 40;refine(CS.out _ (D0.out.f.drew)).mono ?_;rintro e w1 ⟨u1,rfl,o1,f1⟩;have D1:=hid (D0.out.go (z01 f1));have O1:=hid o1;obtain⟨S1,s1,rfl,-⟩:=z02 o1;clear o1 f1 d0 d1 d2 d3 d4;obtain⟨d0,d1,d2,d3,d4⟩:=five D1.out.b)
   | (go_simp;go_at_call 69;refine(CP.out _ D1.out.f).mono ?_;rintro e w2 ⟨u2,rfl,o2,f2⟩;have D2:=hid (D1.out.go f2);have O12:=hid (z05 O1.out f2 (by simp));have O2:=hid o2;obtain⟨S2,s2,rfl,-⟩:=z02 o2;clear o2 f2 d0 d1 d2 d3 d4;obtain⟨d0,d1,d2,d3,d4⟩:=five D2.out.b)
   | (go_simp;go_at_call 70;refine(CC.out _ D2.out.f).mono ?_;rintro e w3 ⟨u3,rfl,o3,f3⟩;have D3:=hid (D2.out.go f3);have O13:=hid (z05 O12.out f3 (by simp));have O23:=hid (z05 O2.out f3 (by simp));have O3:=hid o3;obtain⟨S3,s3,rfl,-⟩:=z02 o3;clear o3 f3 d0 d1 d2 d3 d4;obtain⟨d0,d1,d2,d3,d4⟩:=five D3.out.b;obtain⟨e0,e1,e2,e3,e4⟩:=z23 D3.out.b))
  all_goals
   go_wp2;go_meet
   case rel=>exact zhp D3.out O13.out O23.out O3.out (by simp[World.drew]) (by have:=D1.out.lt;omega) (by have:=D2.out.lt;omega)
 case rest=>
  obtain⟨S1,s1,S2,s2,S3,s3,o1,o2,o3,hD⟩:=hcut;have O1:=hid o1;have O2:=hid o2;have O3:=hid o3;have DD:=hid hD;clear o1 o2 o3 hD d0 d1 d2 d3 d4;have hne1:¬w.heap.size=w.heap.size+1:=by omega
  have hne2:¬w.heap.size+1=w.heap.size:=by omega
  obtain⟨d0,d1,d2,d3,d4⟩:=five DD.out.b;obtain⟨a0,a1,a2,a3,a4⟩:=five DD.out.o;obtain⟨b0,b1,b2,b3,b4⟩:=z23 DD.out.o;go_wp2;refine bodyPost_ret (v:=.agg #[.int .i64 x.kind,.string x.text,.slice S1 x.list.length s1,.slice S2 x.pairs.length s2,.slice S3 x.scores.length s3]) (by simp[results,Tryz.results39,go_sem,a0,a1,a2,a3,a4]) rfl ?_;exact⟨_,rfl,⟨_,_,_,rfl,z09 (z35 O1.out (by omega) _ _ _ _ _) (by omega),z09 (z35 O2.out (by omega) _ _ _ _ _) (by omega),z09 (z35 O3.out (by omega) _ _ _ _ _) (by omega)⟩,DD.out.end5 _ _ _ _ _⟩
def z2n(i:Nat)(b:Bool)(w:World)(e:Ending)(w':World):Prop:=e=.returned (.tuple #[.int .i64 i,.bool b])∧Fr [] w w'
theorem zmz{α:Type}:∀ {c:List α},c.length=7→∃a0 a1 a2 a3 a4 a5 a6,c=[a0,a1,a2,a3,a4,a5,a6]
 | [a0,a1,a2,a3,a4,a5,a6],_=>⟨a0,a1,a2,a3,a4,a5,a6,rfl⟩
theorem zbd(s0 s1 s2 s3 s4 s5 s6:Value):∀(d:List (List Value)) (i:Nat),(∀c∈d,c.length=7)→i < d.length→(d.set i [s0,s1,s2,s3,s4,s5,s6]).flatten=(((((((d.flatten.set (i * 7) s0).set (i * 7+1) s1).set (i * 7+2) s2).set (i * 7+3) s3).set (i * 7+4) s4).set (i * 7+5) s5).set (i * 7+6) s6)
 | [],i,_,h=>absurd h (by simp)
 | c :: d,0,hc,_=>by
  obtain⟨a0,a1,a2,a3,a4,a5,a6,rfl⟩:=zmz (hc c (by simp));rfl
 | c :: d,i+1,hc,h=>by
  obtain⟨a0,a1,a2,a3,a4,a5,a6,rfl⟩:=zmz (hc c (by simp));have e:∀k,(i+1) * 7+k=i * 7+k+7:=fun k=>by omega
  have e0:(i+1) * 7=i * 7+7:=by omega
  rw[List.set_cons_succ,List.flatten_cons,zbd s0 s1 s2 s3 s4 s5 s6 d i (fun c h=>hc c (by simp[h])) (by simpa using h),List.flatten_cons,e0];simp only[show ∀k,i * 7+7+k=i * 7+k+7 from fun k=>by omega];rfl
def z9p(c:List Value):Prop:=∃sk sn st A1 n1 d1 A2 n2 d2 A3 n3 d3 su,c=[.string sk,.int .i64 sn,.string st,.slice A1 n1 d1,.slice A2 n2 d2,.slice A3 n3 d3,.int .i64 su]
theorem z9p.len{c:List Value}(h:z9p c):c.length=7:=by obtain⟨_,_,_,_,_,_,_,_,_,_,_,_,_,rfl⟩:=h;rfl
def zp7(g:Nat)(lb:Array Value)(l:List (List Value))(p:List Value→Bool)(S:List Nat)(w:World):Prop:=
 ∀W (x:List Value),x∈l→Fr S w W→Calls prog g (#[.agg x.toArray]++lb) W fun e w'=>e=.returned (.bool (p x))∧Fr [] W w'
theorem zla(g:Nat)(lb:Array Value)(eg:∀args w,(callFunc g args).run prog w=.ok (.enter g args) w)(p:List Value→Bool)(S:List Nat)(l:List (List Value))(A:Option Addr)(c B:Nat)(w:World)(hsh:∀c∈l,z9p c)(hp:zp7 g lb l p S w)(hl:l.length≤281474976710656)(hB:B≤w.heap.size)
  (hsl:Sl w B 7 (.slice A l.length c) l.length l.flatten):
  Calls prog 270 #[.slice A l.length c,.func (Fn.func g) #[] lb] w fun e w'=>e=.returned (.int .i64 (z2w p l))∧Fr [] w w':=by
 have HS:=hid hsl;have HP:=hid hp;have HSH:=hid hsh;have H7:=hid (fun c hc=>(hsh c hc).len);clear hsl hp hsh;go_enter Tryz.func270,Tryz.ntmps270;go_wp2;go_loopg [5,8] l.length (fun g u i wr=>∃(k:Nat),g=l.length - k∧k≤l.length∧i=.int .i64 k∧(∀j t,j < k→l[j]? = some t→p t=false)∧Fr [] w wr)
 case atStart=>exact⟨0,rfl,Nat.zero_le _,rfl,fun j t hj=>absurd hj (Nat.not_lt_zero _),Fr.refl _ _⟩
 case round=>
  obtain⟨k,rfl,hk,rfl,hno,hf⟩:=hrel;by_cases hlt:k < l.length
  ·obtain⟨b,off,rfl,hb,hc,hm,hcell⟩:=HS.out.at_ (by omega);obtain⟨s,hs⟩:∃s,l[k]? = some s:=⟨_,List.getElem?_eq_getElem hlt⟩;have hsm:=List.mem_of_getElem? hs;obtain⟨sk,sn,st,A1,n1,d1,A2,n2,d2,A3,n3,d3,su,rfl⟩:=HSH.out s hsm;have hc0:wr.cell? ⟨b,off+k * 7,none⟩=some (.string sk):=hf.cell (show w.cell? ⟨b,off+k * 7,none⟩=some (.string sk) from by exact hcell (k * 7) _ (z1w 7 l k 0 _ H7.out hs (by decide))) (by simp);have hc1:wr.cell? ⟨b,off+k * 7+1,none⟩=some (.int .i64 sn):=hf.cell (show w.cell? ⟨b,off+k * 7+1,none⟩=some (.int .i64 sn) from by rw[Nat.add_assoc];exact hcell (k * 7+1) _ (z1w 7 l k 1 _ H7.out hs (by decide))) (by simp);have hc2:wr.cell? ⟨b,off+k * 7+2,none⟩=some (.string st):=hf.cell (show w.cell? ⟨b,off+k * 7+2,none⟩=some (.string st) from by rw[Nat.add_assoc];exact hcell (k * 7+2) _ (z1w 7 l k 2 _ H7.out hs (by decide))) (by simp);have hc3:wr.cell? ⟨b,off+k * 7+3,none⟩=some (.slice A1 n1 d1):=hf.cell (show w.cell? ⟨b,off+k * 7+3,none⟩=some (.slice A1 n1 d1) from by rw[Nat.add_assoc];exact hcell (k * 7+3) _ (z1w 7 l k 3 _ H7.out hs (by decide))) (by simp);have hc4:wr.cell? ⟨b,off+k * 7+4,none⟩=some (.slice A2 n2 d2):=hf.cell (show w.cell? ⟨b,off+k * 7+4,none⟩=some (.slice A2 n2 d2) from by rw[Nat.add_assoc];exact hcell (k * 7+4) _ (z1w 7 l k 4 _ H7.out hs (by decide))) (by simp);have hc5:wr.cell? ⟨b,off+k * 7+5,none⟩=some (.slice A3 n3 d3):=hf.cell (show w.cell? ⟨b,off+k * 7+5,none⟩=some (.slice A3 n3 d3) from by rw[Nat.add_assoc];exact hcell (k * 7+5) _ (z1w 7 l k 5 _ H7.out hs (by decide))) (by simp);have hc6:wr.cell? ⟨b,off+k * 7+6,none⟩=some (.int .i64 su):=hf.cell (show w.cell? ⟨b,off+k * 7+6,none⟩=some (.int .i64 su) from by rw[Nat.add_assoc];exact hcell (k * 7+6) _ (z1w 7 l k 6 _ H7.out hs (by decide))) (by simp);have L:=hid (fun W (hW:Fr [] wr W)=>HP.out W [.string sk,.int .i64 sn,.string st,.slice A1 n1 d1,.slice A2 n2 d2,.slice A3 n3 d3,.int .i64 su] hsm (hf.trans hW).up);have HF:=hid hf;have F1:=hid (Fr.refl [] wr);by_cases hq:p [.string sk,.int .i64 sn,.string st,.slice A1 n1 d1,.slice A2 n2 d2,.slice A3 n3 d3,.int .i64 su]=true
   ·have E:=hid (z1l hno hs hq);rw[hq] at L;clear hno hcell hs hq hf hsm;go_wp2_with fail;refine(L.out _ F1.out).mono ?_;rintro e w1 ⟨rfl,h1⟩;go_wp2;go_ret;rw[E.out];exact⟨rfl,HF.out.trans h1⟩
   ·have hq':p [.string sk,.int .i64 sn,.string st,.slice A1 n1 d1,.slice A2 n2 d2,.slice A3 n3 d3,.int .i64 su]=false:=by simpa using hq
    rw[hq'] at L
    have N:=hid (fun j t (hj:j < k+1) (ht:l[j]? = some t)=>(show p t=false by
     rcases Nat.lt_or_ge j k with h|h
     ·exact hno j t h ht
     ·have e:j=k:=by omega
      subst e;rw[hs] at ht;cases ht;exact hq'))
    clear hno hcell hs hq hq' hf hsm;go_wp2_with fail;refine(L.out _ F1.out).mono ?_;rintro e w1 ⟨rfl,h1⟩;go_wp2;go_roundg (l.length - (k+1))
    case measure=>omega
    case rel=>exact⟨k+1,rfl,by omega,rfl,N.out,HF.out.trans h1⟩
  ·have E:=hid (z1z (q:=p) (l:=l) (fun j t ht=>hno j t (by have:=(List.getElem?_eq_some_iff.1 ht).1;omega) ht));clear hno;go_wp2;go_ret;rw[E.out];exact⟨rfl,hf⟩
def zjh(ys:List (List Value))(base:Nat)(v:Value)(w:World)(e:Ending)(w':World):Prop:=
 ∃v',e=.returned v'∧w'.ownsRow base 74 7 v' ys.length ys.flatten∧Fr (z1o v) w w'∧v'.ownBlock=v.ownBlock
theorem zpk:∀w,(zeroValue 74).run prog w=.ok (.agg #[.string ⟨#[]⟩,.int .i64 0,.string ⟨#[]⟩,.slice none 0 0,.slice none 0 0,.slice none 0 0,.int .i64 0]) w:=fun w=>by kernel_rfl
theorem zjz{p:List Value→Bool}{l d:List (List Value)}{i j:Nat}(h:d.length=l.length)(hd:∀c∈d,c∈l)(s:List Value)(hs:s∈l):∀c∈d.set i s,c∈l:=fun c hc=>by
 rcases List.mem_or_eq_of_mem_set hc with h1|rfl
 ·exact hd c h1
 ·exact hs
theorem zhb(g:Nat)(lb:Array Value)(eg:∀args w,(callFunc g args).run prog w=.ok (.enter g args) w)(p:List Value→Bool)(l:List (List Value))(base:Nat)(v:Value)(w:World)(hsh:∀c∈l,z9p c)(hp:zp7 g lb l p (z1o v) w)(hl:l.length≤1000000)
  (h:w.ownsRow base 74 7 v l.length l.flatten):
  Calls prog 258 #[v,.func (Fn.func g) #[] lb] w (zjh (l.filter fun x=>!p x) base v w):=by
 obtain⟨A,c,rfl,hA,hc,hm⟩:=z02 h;have I:=hid (zla g lb eg p _ l A c w.heap.size w hsh hp (by omega) (Nat.le_refl _) (z0o h));rcases zde p l with⟨e1,e2⟩|⟨k0,s00,e1,hk0,hK⟩
 ·rw[e1] at I;have H:=hid h;have E2:=hid e2;clear h e1 e2 hp hsh;go_enter Tryz.func258,Tryz.ntmps258;go_wp2_with fail;refine I.out.mono ?_;rintro e w1 ⟨rfl,h1⟩;go_wp2;go_ret;rw[E2.out];exact⟨_,rfl,z05 H.out h1 (by simp),h1.up,rfl⟩
 ·rw[e1] at I
  obtain⟨gb,rfl⟩:∃gb,A=some ⟨gb,0,none⟩:=by
   rcases hA with rfl|⟨gb,rfl⟩
   ·exfalso;rcases h.2 with⟨_,h0⟩|⟨g',cap',cur,h',_⟩
    ·omega
    ·cases h'
   ·exact⟨gb,rfl⟩
  have hgb:=(h.lt gb rfl);have H:=hid h;have HP:=hid hp;have HK:=hid hK;have HSH:=hid hsh;have H7:=hid (fun c hc=>(hsh c hc).len);have hne1:((k0:Int)==-1)=false:=beq_eq_false_iff_ne.2 (by omega);unfold maxLen at hm;clear h hp hK e1 hA hsh;go_enter Tryz.func258,Tryz.ntmps258;go_wp2_with fail;refine I.out.mono ?_;rintro e w1 ⟨rfl,h1⟩;have HF1:=hid h1;clear h1;go_wp2;go_loopg [5,6] (l.length - (k0+1)) (fun gg s5 s6 wr=>∃(i j:Nat) (d:List (List Value)),gg=l.length - j∧s5=.int .i64 i∧s6=.int .i64 j∧Kept p l d i j∧(∀c∈d,c∈l)∧wr.ownsRow base 74 7 (.slice (some ⟨gb,0,none⟩) l.length c) l.length d.flatten∧Fr [gb] w wr)
  case atStart=>exact⟨k0,k0+1,l,rfl,rfl,by go_num,HK.out,fun c h=>h,z05 H.out HF1.out (by simp),HF1.out.up⟩
  case round=>
   obtain⟨i,j,d,rfl,rfl,rfl,hK,hdm,hO,hF⟩:=hrel;have HK:=hid hK;have HO:=hid hO;have HF:=hid hF;have HDM:=hid hdm;have HD7:=hid (fun c hc=>H7.out c (hdm c hc));have hij:=hK.lt;have hjl:=hK.le;have hdl:=hK.len;have hsz:=hF.size;clear I HF1 hdm;by_cases hlt:j < l.length
   ·obtain⟨s,hs⟩:∃s,l[j]? = some s:=⟨_,List.getElem?_eq_getElem hlt⟩;have hd:d[j]? = some s:=(hK.behind j (Nat.le_refl _)).trans hs;have hsm:=List.mem_of_getElem? hs;obtain⟨sk,sn,st,A1,n1,d1,A2,n2,d2,A3,n3,d3,su,rfl⟩:=HSH.out s hsm;have L:=hid (fun W (hW:Fr [] wr W)=>HP.out W [.string sk,.int .i64 sn,.string st,.slice A1 n1 d1,.slice A2 n2 d2,.slice A3 n3 d3,.int .i64 su] hsm (hF.trans hW.up));have HS:=hid hs;have HSM:=hid hsm;have x0:wr.cell? ⟨gb,j * 7,none⟩=some (.string sk):=(hO.cellAt (j * 7) (by omega)).trans (z1w 7 d j 0 _ HD7.out hd (by decide));have x1:wr.cell? ⟨gb,j * 7+1,none⟩=some (.int .i64 sn):=(hO.cellAt (j * 7+1) (by omega)).trans (z1w 7 d j 1 _ HD7.out hd (by decide));have x2:wr.cell? ⟨gb,j * 7+2,none⟩=some (.string st):=(hO.cellAt (j * 7+2) (by omega)).trans (z1w 7 d j 2 _ HD7.out hd (by decide));have x3:wr.cell? ⟨gb,j * 7+3,none⟩=some (.slice A1 n1 d1):=(hO.cellAt (j * 7+3) (by omega)).trans (z1w 7 d j 3 _ HD7.out hd (by decide));have x4:wr.cell? ⟨gb,j * 7+4,none⟩=some (.slice A2 n2 d2):=(hO.cellAt (j * 7+4) (by omega)).trans (z1w 7 d j 4 _ HD7.out hd (by decide));have x5:wr.cell? ⟨gb,j * 7+5,none⟩=some (.slice A3 n3 d3):=(hO.cellAt (j * 7+5) (by omega)).trans (z1w 7 d j 5 _ HD7.out hd (by decide));have x6:wr.cell? ⟨gb,j * 7+6,none⟩=some (.int .i64 su):=(hO.cellAt (j * 7+6) (by omega)).trans (z1w 7 d j 6 _ HD7.out hd (by decide));have F1:=hid ((Fr.refl [] wr).alloc (.cells #[.string sk,.int .i64 sn,.string st,.slice A1 n1 d1,.slice A2 n2 d2,.slice A3 n3 d3,.int .i64 su] 74));have V1:=hid (Whole.new wr 74 [.string sk,.int .i64 sn,.string st,.slice A1 n1 d1,.slice A2 n2 d2,.slice A3 n3 d3,.int .i64 su]);clear hK hO hF hs hd hsm;by_cases hq:p [.string sk,.int .i64 sn,.string st,.slice A1 n1 d1,.slice A2 n2 d2,.slice A3 n3 d3,.int .i64 su]=true
    ·rw[hq] at L;have HQ:=hid hq;clear hq;go_wp2_with fail;refine(L.out _ F1.out).mono ?_;rintro e w2 ⟨rfl,h2⟩;have f2:=hid (F1.out.trans h2);clear h2;go_wp2;go_roundg (l.length - (j+1))
     case measure=>omega
     case rel=>exact⟨i,j+1,d,rfl,rfl,by go_num,HK.out.skip HS.out HQ.out,HDM.out,z05 HO.out f2.out (by simp),HF.out.trans f2.out.up⟩
    ·have hq':p [.string sk,.int .i64 sn,.string st,.slice A1 n1 d1,.slice A2 n2 d2,.slice A3 n3 d3,.int .i64 su]=false:=by simpa using hq
     rw[hq'] at L;have HQ:=hid hq';clear hq hq';obtain⟨s',hs'⟩:∃s',d[i]? = some s':=⟨_,List.getElem?_eq_getElem (by omega)⟩;obtain⟨b0,b1,b2,b3,b4,b5,b6,rfl⟩:=zmz (HD7.out s' (List.mem_of_getElem? hs'));have HS':=hid hs';clear hs';go_wp2_with fail;refine(L.out _ F1.out).mono ?_;rintro e w2 ⟨rfl,h2⟩;have f2:=hid (F1.out.trans h2);have HO2:=hid (z05 HO.out f2.out (by simp));have V2:=V1.out.fr h2 (by simp);have v0:w2.cell? ⟨wr.heap.size,0,none⟩=some (.string sk):=V2.cell 0;have y0:w2.cell? ⟨gb,i * 7,none⟩=some b0:=(HO2.out.cellAt (i * 7) (by omega)).trans (z1w 7 d i 0 _ HD7.out HS'.out (by decide));have z0:w2.frozen? ⟨gb,i * 7,none⟩=false:=HO2.out.frozenAt _;have v1:w2.cell? ⟨wr.heap.size,1,none⟩=some (.int .i64 sn):=V2.cell 1;have y1:w2.cell? ⟨gb,i * 7+1,none⟩=some b1:=(HO2.out.cellAt (i * 7+1) (by omega)).trans (z1w 7 d i 1 _ HD7.out HS'.out (by decide));have z1:w2.frozen? ⟨gb,i * 7+1,none⟩=false:=HO2.out.frozenAt _;have v2:w2.cell? ⟨wr.heap.size,2,none⟩=some (.string st):=V2.cell 2;have y2:w2.cell? ⟨gb,i * 7+2,none⟩=some b2:=(HO2.out.cellAt (i * 7+2) (by omega)).trans (z1w 7 d i 2 _ HD7.out HS'.out (by decide));have z2:w2.frozen? ⟨gb,i * 7+2,none⟩=false:=HO2.out.frozenAt _;have v3:w2.cell? ⟨wr.heap.size,3,none⟩=some (.slice A1 n1 d1):=V2.cell 3;have y3:w2.cell? ⟨gb,i * 7+3,none⟩=some b3:=(HO2.out.cellAt (i * 7+3) (by omega)).trans (z1w 7 d i 3 _ HD7.out HS'.out (by decide));have z3:w2.frozen? ⟨gb,i * 7+3,none⟩=false:=HO2.out.frozenAt _;have v4:w2.cell? ⟨wr.heap.size,4,none⟩=some (.slice A2 n2 d2):=V2.cell 4;have y4:w2.cell? ⟨gb,i * 7+4,none⟩=some b4:=(HO2.out.cellAt (i * 7+4) (by omega)).trans (z1w 7 d i 4 _ HD7.out HS'.out (by decide));have z4:w2.frozen? ⟨gb,i * 7+4,none⟩=false:=HO2.out.frozenAt _;have v5:w2.cell? ⟨wr.heap.size,5,none⟩=some (.slice A3 n3 d3):=V2.cell 5;have y5:w2.cell? ⟨gb,i * 7+5,none⟩=some b5:=(HO2.out.cellAt (i * 7+5) (by omega)).trans (z1w 7 d i 5 _ HD7.out HS'.out (by decide));have z5:w2.frozen? ⟨gb,i * 7+5,none⟩=false:=HO2.out.frozenAt _;have v6:w2.cell? ⟨wr.heap.size,6,none⟩=some (.int .i64 su):=V2.cell 6;have y6:w2.cell? ⟨gb,i * 7+6,none⟩=some b6:=(HO2.out.cellAt (i * 7+6) (by omega)).trans (z1w 7 d i 6 _ HD7.out HS'.out (by decide));have z6:w2.frozen? ⟨gb,i * 7+6,none⟩=false:=HO2.out.frozenAt _;clear V2 h2;go_wp2;go_roundg (l.length - (j+1))
     case measure=>omega
     case rel=>
      have o0:=HO2.out.stored (i * 7) (.string sk);have o1:=o0.1.stored (i * 7+1) (.int .i64 sn);have o2:=o1.1.stored (i * 7+2) (.string st);have o3:=o2.1.stored (i * 7+3) (.slice A1 n1 d1);have o4:=o3.1.stored (i * 7+4) (.slice A2 n2 d2);have o5:=o4.1.stored (i * 7+5) (.slice A3 n3 d3);have o6:=o5.1.stored (i * 7+6) (.int .i64 su);exact⟨i+1,j+1,d.set i [.string sk,.int .i64 sn,.string st,.slice A1 n1 d1,.slice A2 n2 d2,.slice A3 n3 d3,.int .i64 su],rfl,by go_num,by go_num,HK.out.keep HS.out HQ.out,zjz (p:=p) (j:=j) hdl HDM.out _ HSM.out,by rw[zbd (.string sk) (.int .i64 sn) (.string st) (.slice A1 n1 d1) (.slice A2 n2 d2) (.slice A3 n3 d3) (.int .i64 su) d i HD7.out (by omega)];exact o6.1,((((((((HF.out.trans f2.out.up).setCell (p:=⟨gb,i * 7,none⟩) (.inl (by simp)) _).setCell (p:=⟨gb,i * 7+1,none⟩) (.inl (by simp)) _).setCell (p:=⟨gb,i * 7+2,none⟩) (.inl (by simp)) _).setCell (p:=⟨gb,i * 7+3,none⟩) (.inl (by simp)) _).setCell (p:=⟨gb,i * 7+4,none⟩) (.inl (by simp)) _).setCell (p:=⟨gb,i * 7+5,none⟩) (.inl (by simp)) _).setCell (p:=⟨gb,i * 7+6,none⟩) (.inl (by simp)) _)⟩
   ·obtain rfl:j=l.length:=by omega
    have hdone:=hK.done;obtain⟨cur,w0,l0,t0,hb0,_,_,hxl⟩:=z1i hO;obtain⟨zs,hzs⟩:∃zs,zs=(Builtin.zeroCells (Value.cells (.agg #[.string ⟨#[]⟩,.int .i64 0,.string ⟨#[]⟩,.slice none 0 0,.slice none 0 0,.slice none 0 0,.int .i64 0])) (l.length - i)).toList:=⟨_,rfl⟩;have hzl:zs.length=(l.length - i) * 7:=by rw[hzs];simp[Builtin.zeroCells,Value.cells]
    have hcl:∀ty,(Builtin.clear_ #[28] ty #[.slice (some ⟨gb,i * 7,none⟩) (l.length - i) (c - i)]).run prog wr=.ok (.tuple #[]) (wr.setCells gb (i * 7) zs):=fun ty=>by
     have:=z4d (P:=prog) wr 28 74 ty (.agg #[.string ⟨#[]⟩,.int .i64 0,.string ⟨#[]⟩,.slice none 0 0,.slice none 0 0,.slice none 0 0,.int .i64 0]) Tryz.underlying28 zpk (by intro u hu;simp[Value.cells] at hu;rcases hu with rfl|rfl|rfl|rfl|rfl|rfl|rfl <;> rfl) gb (i * 7) (l.length - i) (c - i) (by omega) (fun t ht=>by
      exact z12 w0 (o:=i * 7) (m:=(l.length - i) * 7) (by omega) t (by simpa[Value.cells] using ht))
     rw[←hzs] at this;exact this
    have W1:=z0y zs (i * 7) wr cur w0 (by omega);have O1:=z1x (cap:=c) (k:=7) (n:=i) (base:=base) W1 (by simp only[List.length_append,List.length_take,List.length_drop,l0,hzl];omega) hb0 (by omega) (by unfold maxLen;omega);rw[List.append_assoc,List.take_append_of_le_length (by rw[List.length_take];omega),List.take_take,Nat.min_eq_left (by omega)] at O1
    have e5:cur.take (i * 7)=(l.filter fun x=>!p x).flatten:=by
     rw[←hdone,←z56 7 d i HD7.out,←t0,List.take_take,Nat.min_eq_left (by omega)]
    have e6:i=(l.filter fun x=>!p x).length:=by rw[←hdone,List.length_take];omega
    rw[e5] at O1;have HO1:=hid O1;have HE:=hid e6;have G1:=hid (z0e (g:=gb) zs (i * 7) wr);have hic:i < c:=by omega
    clear hK hO hF w0 l0 t0 hb0 hxl hzs hzl W1 O1 e5 e6 hdone hdl HK HO;go_wp2;go_ret;have e6:=HE.out;refine⟨_,rfl,?_,?_,rfl⟩
    ·rw[←e6];exact HO1.out
    ·exact HF.out.grown G1.out (fun k hk=>by cases hk;exact .inl (by simp))
end Go.Proofs.YtmkhmejempcimaaGreatDoor
