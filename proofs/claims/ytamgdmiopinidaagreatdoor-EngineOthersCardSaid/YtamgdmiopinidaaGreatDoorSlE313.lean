/- Contracts that the proof of E3 uses. No condition beyond those in each theorem. -/
import Derived.Test.YtamgdmiopinidaaGreatDoorSlE312
set_option linter.unusedVariables false
set_option linter.unusedSimpArgs false
set_option maxHeartbeats 8000000
set_option maxRecDepth 100000
namespace Go.Proofs.YtamgdmiopinidaaGreatDoor
open Lib (hid)
open Tryz (prog)
open Go.RowKit
theorem za8(n:Nat)(xs:List Value)(A:Option Addr)(c:Nat)(w:World)(B:Nat)(hl:n≤1000000)(hB:B≤w.heap.size)(h:Sl w B 2 (.slice A n c) n xs)(h1:∀u∈xs,u.oneCell'=true) :
  Calls prog 144 #[.slice A n c] w (z7h 91 2 n xs w):=by
 obtain⟨i0,hi,hz0,hz1,hz2⟩:=info_parts z66
 have q29:∀(w:World) (a:Option Addr) (n c n' c':Nat),(binOp .eql 41 (.slice a n c) (.slice none n' c')).run prog w=.ok (.bool a.isNone) w:=fun w a n c n' c'=>Lib.run_eql_slice_nil w _ _ a n c n' c' Tryz.underlying41
 cases A with
 | none=>
  obtain⟨A',c',e,hlx,hc,hm,hr⟩:=h
  cases e
  have h0:n=0:=by
   rcases Nat.eq_zero_or_pos n with h0|h0
   ·exact h0
   ·obtain⟨_,_,h,_⟩:=hr h0
    cases h
  subst h0
  obtain rfl:xs=[]:=List.eq_nil_of_length_eq_zero (by omega)
  clear hr h1
  go_enter Tryz.func144,Tryz.ntmps144
  go_wp2
  go_ret
  exact⟨_,rfl,World.ownsRow_nil _ _ _ _,Fr.refl [] w⟩
 | some ad=>
  have hO:=(World.ownsRow_lit (base:=w.heap.size) (e:=91) (size:=2) w #[] 0 (Nat.le_refl _) (Nat.zero_le _) rfl)
  have hsl:=h.fr ((Fr.refl [] w).alloc (.cells #[] 91)) hB (by simp)
  have H1:=hid h1
  have HS:=hid hsl
  clear h h1 hsl
  go_enter Tryz.func144,Tryz.ntmps144
  go_wp2_with (at_builtin;refine z0i _ rfl _ _ 41 rfl w.heap.size 91 i0 _ 2 24 Tryz.underlying41 hi hz0 hz1 hz2 rfl (by decide) _ _ _ rfl hO B _ n xs rfl HS.out H1.out ?c1 ?c2 (by simp) ?_)
  case c1=>unfold maxLen;omega
  case c2=>omega
  intro v' w2 hown' hgrow hat
  go_wp2
  go_ret
  refine⟨_,rfl,by simpa using hown',((Fr.refl [] w).alloc _).grown hgrow (fun k hk=>?_)⟩
  simp[Value.ownBlock] at hk
  subst hk
  exact .inr (Nat.le_refl _)
def ztx(x:Itm)(w wx:World):Prop:=∃S1 s1 S2 s2 S3 s3,
 wx.ownsRow (w.heap.size+2) 9 1 (.slice S1 x.list.length s1) x.list.length (z03 x.list)∧wx.ownsRow (w.heap.size+2) 86 2 (.slice S2 x.pairs.length s2) x.pairs.length (z0e x.pairs)∧wx.ownsRow (w.heap.size+2) 91 2 (.slice S3 x.scores.length s3) x.scores.length (z08 x.scores) ∧
 BO w 1 [.int .i64 x.kind,.string x.text,.slice S1 x.list.length s1,.slice S2 x.pairs.length s2,.slice S3 x.scores.length s3] wx
theorem zqf{x:Itm}{w w3:World}{A1 A2 A3 S1 S2 S3:Option Addr}{c1 c2 c3 s1 s2 s3 b1 b2 b3:Nat}(h:BO w 1 [.int .i64 x.kind,.string x.text,.slice A1 x.list.length c1,.slice A2 x.pairs.length c2,.slice A3 x.scores.length c3] w3)
  (o1:w3.ownsRow b1 9 1 (.slice S1 x.list.length s1) x.list.length (z03 x.list)) (o2:w3.ownsRow b2 86 2 (.slice S2 x.pairs.length s2) x.pairs.length (z0e x.pairs)) (o3:w3.ownsRow b3 91 2 (.slice S3 x.scores.length s3) x.scores.length (z08 x.scores))
  (h1:w.heap.size+2≤b1) (h2:w.heap.size+2≤b2) (h3:w.heap.size+2≤b3) :
  ztx x w (((w3.setCell ⟨w.heap.size,2,none⟩ (.slice S1 x.list.length s1)).setCell ⟨w.heap.size,3,none⟩ (.slice S2 x.pairs.length s2)).setCell ⟨w.heap.size,4,none⟩ (.slice S3 x.scores.length s3)):=by
 have kp:∀ {e size n:Nat} {v:Value} {xs:List Value} {b:Nat} {u1 u2 u3:Value},w.heap.size+2≤b→w3.ownsRow b e size v n xs→(((w3.setCell ⟨w.heap.size,2,none⟩ u1).setCell ⟨w.heap.size,3,none⟩ u2).setCell ⟨w.heap.size,4,none⟩ u3).ownsRow (w.heap.size+2) e size v n xs:=fun hb ho=>
  z1d (z0x (z0x (z0x ho (by show w.heap.size < _;omega) _) (by show w.heap.size < _;omega) _) (by show w.heap.size < _;omega) _) hb
 refine⟨S1,s1,S2,s2,S3,s3,kp h1 o1,kp h2 o2,kp h3 o3,?_,?_,?_⟩
 ·have:=((h.b.set_ 2 (.slice S1 x.list.length s1)).set_ 3 (.slice S2 x.pairs.length s2)).set_ 4 (.slice S3 x.scores.length s3)
  exact this
 ·exact((h.o.far (by show w.heap.size+1≠w.heap.size;omega) _).far (by show w.heap.size+1≠w.heap.size;omega) _).far (by show w.heap.size+1≠w.heap.size;omega) _
 ·exact((h.f.setCell (p:=⟨w.heap.size,2,none⟩) (.inr (Nat.le_refl _)) _).setCell (p:=⟨w.heap.size,3,none⟩) (.inr (Nat.le_refl _)) _).setCell (p:=⟨w.heap.size,4,none⟩) (.inr (Nat.le_refl _)) _
theorem z8j(x:Itm)(v:Value)(w:World)(B:Nat)(hs:x.Small)(l1:x.list.length≤1000000)(l2:x.pairs.length≤1000000)(l3:x.scores.length≤1000000)(hB:B≤w.heap.size)(h:z0q w B v x) :
  Calls prog 106 #[v] w (OwnI w.heap.size x w):=by
 obtain⟨A1,c1,A2,c2,A3,c3,rfl,h1,h2,h3⟩:=h
 have CS:=hid (fun W (hW:Fr [] w W)=>z56 x.list.length (z03 x.list) A1 c1 W B l1 (Nat.le_trans hB hW.size) (h1.fr hW hB (by simp)) (z3f _))
 have CP:=hid (fun W (hW:Fr [] w W)=>zap x.pairs.length (z0e x.pairs) A2 c2 W B l2 (Nat.le_trans hB hW.size) (h2.fr hW hB (by simp)) (z9q _))
 have CC:=hid (fun W (hW:Fr [] w W)=>za8 x.scores.length (z08 x.scores) A3 c3 W B l3 (Nat.le_trans hB hW.size) (h3.fr hW hB (by simp)) (z52 _))
 have D0:=hid (BO.new w (.int .i64 x.kind) (.string x.text) (.slice A1 x.list.length c1) (.slice A2 x.pairs.length c2) (.slice A3 x.scores.length c3))
 obtain⟨d0,d1,d2,d3,d4⟩:=five D0.out.b
 clear h1 h2 h3 hs
 go_enter Tryz.func106,Tryz.ntmps106
 go_wp2_with fail
 go_cut [] (fun wx=>ztx x w wx)
 case first=>
  go_region_law (first
   | (go_simp;go_at_call 142;refine(CS.out _ (D0.out.f.drew)).mono ?_;rintro e w1 ⟨u1,rfl,o1,f1⟩;have D1:=hid (D0.out.go (z01 f1));have O1:=hid o1;obtain⟨S1,s1,rfl,-⟩:=z06 o1;clear o1 f1 d0 d1 d2 d3 d4;obtain⟨d0,d1,d2,d3,d4⟩:=five D1.out.b)
   | (go_simp;go_at_call 143;refine(CP.out _ D1.out.f).mono ?_;rintro e w2 ⟨u2,rfl,o2,f2⟩;have D2:=hid (D1.out.go f2);have O12:=hid (z0n O1.out f2 (by simp));have O2:=hid o2;obtain⟨S2,s2,rfl,-⟩:=z06 o2;clear o2 f2 d0 d1 d2 d3 d4;obtain⟨d0,d1,d2,d3,d4⟩:=five D2.out.b)
   | (go_simp;go_at_call 144;refine(CC.out _ D2.out.f).mono ?_;rintro e w3 ⟨u3,rfl,o3,f3⟩;have D3:=hid (D2.out.go f3);have O13:=hid (z0n O12.out f3 (by simp));have O23:=hid (z0n O2.out f3 (by simp));have O3:=hid o3;obtain⟨S3,s3,rfl,-⟩:=z06 o3;clear o3 f3 d0 d1 d2 d3 d4;obtain⟨d0,d1,d2,d3,d4⟩:=five D3.out.b;obtain⟨e0,e1,e2,e3,e4⟩:=z10 D3.out.b))
  all_goals
   go_wp2
   go_meet
   case rel=>exact zqf D3.out O13.out O23.out O3.out (by simp[World.drew]) (by have:=D1.out.lt;omega) (by have:=D2.out.lt;omega)
 case rest=>
  obtain⟨S1,s1,S2,s2,S3,s3,o1,o2,o3,hD⟩:=hcut
  have O1:=hid o1
  have O2:=hid o2
  have O3:=hid o3
  have DD:=hid hD
  clear o1 o2 o3 hD d0 d1 d2 d3 d4
  have hne1:¬w.heap.size=w.heap.size+1:=by omega
  have hne2:¬w.heap.size+1=w.heap.size:=by omega
  obtain⟨d0,d1,d2,d3,d4⟩:=five DD.out.b
  obtain⟨a0,a1,a2,a3,a4⟩:=five DD.out.o
  obtain⟨b0,b1,b2,b3,b4⟩:=z10 DD.out.o
  go_wp2
  refine bodyPost_ret (v:=.agg #[.int .i64 x.kind,.string x.text,.slice S1 x.list.length s1,.slice S2 x.pairs.length s2,.slice S3 x.scores.length s3]) (by simp[results,Tryz.results106,go_sem,a0,a1,a2,a3,a4]) rfl ?_
  exact⟨_,rfl,⟨_,_,_,rfl,z1d (z54 O1.out (by omega) _ _ _ _ _) (by omega),z1d (z54 O2.out (by omega) _ _ _ _ _) (by omega),z1d (z54 O3.out (by omega) _ _ _ _ _) (by omega)⟩,DD.out.end5 _ _ _ _ _⟩
theorem z88(n:Int)(w:World):Calls prog 28 #[.int .i64 n] w fun e w'=>e=.returned (.bool (z3a n))∧w=w':=by
 by_cases h1:0≤n
 ·by_cases h2:n≤1000000
  ·rw[show z3a n=true from by unfold z3a;rw[decide_eq_true h1,decide_eq_true h2];rfl]
   go_enter Tryz.func28,Tryz.ntmps28
   go_wp2
   go_ret
   exact⟨rfl,rfl⟩
  ·rw[show z3a n=false from by unfold z3a;rw[decide_eq_false h2,Bool.and_false]]
   have h3:decide (n≤1000000)=false:=decide_eq_false h2
   go_enter Tryz.func28,Tryz.ntmps28
   go_wp2
   go_ret
   exact⟨rfl,rfl⟩
 ·rw[show z3a n=false from by unfold z3a;rw[decide_eq_false h1,Bool.false_and]]
  have h3:decide (0≤n)=false:=decide_eq_false h1
  go_enter Tryz.func28,Tryz.ntmps28
  go_wp2
  go_ret
  exact⟨rfl,rfl⟩
theorem zbr(t n:Int)(w:World):Calls prog 111 #[.int .i64 t,.int .i64 n] w fun e w'=>e=.returned (.bool (z1r t n))∧w=w':=by
 by_cases h1:t=0
 ·rw[show z1r t n=false from by unfold z1r;rw[decide_eq_false (by simpa using h1),Bool.false_and]]
  have q1:(t != 0)=false:=by simpa using h1
  clear h1
  go_enter Tryz.func111,Tryz.ntmps111
  go_wp2
  go_ret
  exact⟨rfl,rfl⟩
 ·have q1:(t != 0)=true:=by simpa using h1
  by_cases h2:t≤n
  ·rw[show z1r t n=true from by unfold z1r;rw[decide_eq_true h1,decide_eq_true h2];rfl]
   clear h1
   go_enter Tryz.func111,Tryz.ntmps111
   go_wp2
   go_ret
   exact⟨rfl,rfl⟩
  ·rw[show z1r t n=false from by unfold z1r;rw[decide_eq_false h2,Bool.and_false]]
   have h3:decide (t≤n)=false:=decide_eq_false h2
   clear h1 h2
   go_enter Tryz.func111,Tryz.ntmps111
   go_wp2
   go_ret
   exact⟨rfl,rfl⟩
theorem seven{w:World}{g t:Nat}{a b c d e f h:Value}(hw:Whole w g t [a,b,c,d,e,f,h]) :
  w.cell? ⟨g,0,none⟩=some a∧w.cell? ⟨g,1,none⟩=some b∧w.cell? ⟨g,2,none⟩=some c∧w.cell? ⟨g,3,none⟩=some d∧w.cell? ⟨g,4,none⟩=some e∧w.cell? ⟨g,5,none⟩=some f∧w.cell? ⟨g,6,none⟩=some h:=
 ⟨hw.cell 0,hw.cell 1,hw.cell 2,hw.cell 3,hw.cell 4,hw.cell 5,hw.cell 6⟩
theorem z3p{w:World}{g t:Nat}{a b c d e f h:Value}(hw:Whole w g t [a,b,c,d,e,f,h]) :
  w.frozen? ⟨g,0,none⟩=false∧w.frozen? ⟨g,1,none⟩=false∧w.frozen? ⟨g,2,none⟩=false∧w.frozen? ⟨g,3,none⟩=false∧w.frozen? ⟨g,4,none⟩=false∧w.frozen? ⟨g,5,none⟩=false∧w.frozen? ⟨g,6,none⟩=false:=
 ⟨hw.frozen 0,hw.frozen 1,hw.frozen 2,hw.frozen 3,hw.frozen 4,hw.frozen 5,hw.frozen 6⟩
theorem zal(a b c d e f:Value)(t n:Int)(w:World):Calls prog 17 #[.agg #[a,b,c,d,e,f,.int .i64 t],.int .i64 n] w fun e w'=>e=.returned (.bool (z1r t n))∧Fr [] w w':=by
 have F1:=hid ((Fr.refl [] w).alloc (.cells #[a,b,c,d,e,f,.int .i64 t] 45))
 by_cases h1:t=0
 ·rw[show z1r t n=false from by unfold z1r;rw[decide_eq_false (by simpa using h1),Bool.false_and]]
  have q1:(t != 0)=false:=by simpa using h1
  clear h1
  go_enter Tryz.func17,Tryz.ntmps17
  go_wp2
  go_ret
  exact⟨rfl,F1.out⟩
 ·have q1:(t != 0)=true:=by simpa using h1
  by_cases h2:t≤n
  ·rw[show z1r t n=true from by unfold z1r;rw[decide_eq_true h1,decide_eq_true h2];rfl]
   clear h1
   go_enter Tryz.func17,Tryz.ntmps17
   go_wp2
   go_ret
   exact⟨rfl,F1.out⟩
  ·rw[show z1r t n=false from by unfold z1r;rw[decide_eq_false h2,Bool.and_false]]
   have h3:decide (t≤n)=false:=decide_eq_false h2
   clear h1 h2
   go_enter Tryz.func17,Tryz.ntmps17
   go_wp2
   go_ret
   exact⟨rfl,F1.out⟩
theorem zhd(k s:ByteArray)(b c d e f g:Value)(w:World):Calls prog 212 (#[.agg #[.string k,b,c,d,e,f,g],.string s]++#[]) w fun e w'=>e=.returned (.int .i64 (z4m k s))∧Fr [] w w':=by
 have F1:=hid ((Fr.refl [] w).alloc (.cells #[.string k,b,c,d,e,f,g] 45))
 go_enter Tryz.func212,Tryz.ntmps212
 go_wp2_with fail
 refine(z71 k s _).mono ?_
 rintro e w1 ⟨rfl,rfl⟩
 go_wp2
 go_ret
 exact⟨rfl,F1.out⟩
theorem zsu(l:List Ent)(s:ByteArray)(A:Option Addr)(c B:Nat)(w:World)(hr:rises (ltK Ent.key) l=true)(hl:l.length≤281474976710656)(hB:B≤w.heap.size)(h:z0v w B (.slice A l.length c) l) :
  Calls prog 211 #[.slice A l.length c,.string s,.func (Fn.func 212) #[] #[]] w (z4g (z1z Ent.key l s) (z5r Ent.key l s) w):=by
 have HS:=hid h
 have hlow:=z5b Ent.key l s
 have HR:=hid hr
 clear h hr
 have eg:=z1x Tryz.func212 (by kernel_rfl) rfl
 go_enter Tryz.func211,Tryz.ntmps211
 go_wp2
 go_loopg [9,10] l.length (fun g s9 s10 wr=>∃(lo hi:Nat),g=hi - lo∧s9=.int .i64 lo∧s10=.int .i64 hi∧lo≤z1z Ent.key l s∧z1z Ent.key l s≤hi∧hi≤l.length∧Fr [] w wr)
 case atStart=>exact⟨0,l.length,rfl,rfl,rfl,Nat.zero_le _,hlow,Nat.le_refl _,Fr.refl _ _⟩
 case round=>
  obtain⟨lo,hi,rfl,rfl,rfl,h1,h2,h3,hf⟩:=hrel
  have HF:=hid hf
  clear hf
  by_cases hlt:lo < hi
  ·obtain⟨m,hm⟩:∃m,m=(lo+hi) / 2:=⟨_,rfl⟩
   have hml:m < l.length:=by omega
   obtain⟨b,off,rfl,hb,hc,hmx,hat⟩:=HS.out.at_ (by omega)
   obtain⟨q,hq⟩:∃q,l[m]? = some q:=⟨_,List.getElem?_eq_getElem hml⟩
   obtain⟨A1,A2,A3,c1,c2,c3,h7⟩:=hat m q hq
   obtain⟨x0,x1,x2,x3,x4,x5,x6,-⟩:=h7.fr HF.out hb hB (by simp)
   have hmi:((lo:Int)+(hi:Int)) / 2=(m:Int):=by omega
   have hM:=hid hm
   have hnew:(z4m q.key s < 0→m < z1z Ent.key l s)∧(¬z4m q.key s < 0→z1z Ent.key l s≤m):=⟨fun h=>by
    rcases Nat.lt_or_ge m (z1z Ent.key l s) with h'|h'
    ·exact h'
    ·exact absurd h (zev Ent.key HR.out h' hq),fun h=>by
    rcases Nat.lt_or_ge m (z1z Ent.key l s) with h'|h'
    ·exact absurd (z7g Ent.key h' hq) h
    ·exact h'⟩
   have HN:=hid hnew
   have FL:=hid (fun W b c d e f g=>zhd q.key s b c d e f g W)
   clear hat h7 hq hnew hm
   generalize z4m q.key s=o at *
   by_cases ho:o < 0
   ·have hn:=HN.out.1 ho
    clear HN
    go_wp2_with fail
    refine(FL.out _ _ _ _ _ _ _).mono ?_
    rintro e w2 ⟨rfl,f2⟩
    clear hmi
    go_wp2
    go_roundg (hi - (m+1))
    case measure=>have:=hM.out;omega
    case rel=>exact⟨m+1,hi,rfl,by go_num,rfl,by omega,h2,h3,HF.out.trans f2⟩
   ·have hn:=HN.out.2 ho
    clear HN
    go_wp2_with fail
    refine(FL.out _ _ _ _ _ _ _).mono ?_
    rintro e w2 ⟨rfl,f2⟩
    clear hmi
    go_wp2
    go_roundg (m - lo)
    case measure=>have:=hM.out;omega
    case rel=>exact⟨lo,m,rfl,rfl,rfl,h1,hn,by omega,HF.out.trans f2⟩
  ·obtain rfl:hi=lo:=by omega
   obtain⟨lw,hlw⟩:∃lw,lw=z1z Ent.key l s:=⟨_,rfl⟩
   obtain rfl:hi=lw:=by omega
   have HL:=hid hlw
   by_cases hn:hi < l.length
   ·obtain⟨b,off,rfl,hb,hc,hmx,hat⟩:=HS.out.at_ (by omega)
    obtain⟨q,hq⟩:∃q,l[hi]? = some q:=⟨_,List.getElem?_eq_getElem hn⟩
    obtain⟨A1,A2,A3,c1,c2,c3,h7⟩:=hat hi q hq
    obtain⟨x0,x1,x2,x3,x4,x5,x6,-⟩:=h7.fr HF.out hb hB (by simp)
    have FL:=hid (fun W b c d e f g=>zhd q.key s b c d e f g W)
    have HH:=hid (show z5r Ent.key l s=decide (z4m q.key s=0) from by unfold z5r;rw[←hlw,hq])
    clear hat h7 hq hlw h1 h2
    generalize z4m q.key s=o at *
    by_cases ho:o=0
    ·subst ho
     have HH2:=hid (HH.out.trans (decide_eq_true rfl))
     clear HH
     go_wp2_with fail
     refine(FL.out _ _ _ _ _ _ _).mono ?_
     rintro e w2 ⟨rfl,f2⟩
     go_wp2
     go_ret2
     refine⟨?_,HF.out.trans f2⟩
     rw[←HL.out,HH2.out]
     rfl
    ·have q1:(o==0)=false:=by simpa using ho
     have HH2:=hid (HH.out.trans (decide_eq_false ho))
     clear ho HH
     go_wp2_with fail
     refine(FL.out _ _ _ _ _ _ _).mono ?_
     rintro e w2 ⟨rfl,f2⟩
     go_wp2
     go_ret2
     refine⟨?_,HF.out.trans f2⟩
     rw[←HL.out,HH2.out]
     rfl
   ·have HH:=hid (show z5r Ent.key l s=false from by unfold z5r;rw[←hlw,List.getElem?_eq_none (by omega)])
    clear h1 h2 hlw
    go_wp2
    go_ret2
    refine⟨?_,HF.out⟩
    rw[←HL.out,HH.out]
    rfl
theorem z9w(l:List Ent)(s:ByteArray)(A:Option Addr)(c B:Nat)(w:World)(hr:rises (ltK Ent.key) l=true)(hl:l.length≤281474976710656)(hB:B≤w.heap.size)(h:z0v w B (.slice A l.length c) l) :
  Calls prog 141 #[.slice A l.length c,.string s] w (z4g (z1z Ent.key l s) (z5r Ent.key l s) w):=by
 have I:=hid (zsu l s A c B w hr hl hB h)
 clear h
 unfold z4g at I ⊢
 go_enter Tryz.func141,Tryz.ntmps141
 go_wp2_with fail
 refine I.out.mono ?_
 rintro e w1 ⟨rfl,f1⟩
 go_wp2
 go_ret2
 exact⟨rfl,f1⟩
def z2c(l:List Ent)(now:Int)(s:ByteArray):Option Ent:=l.find? fun e=>decide (e.key=s)&&!z1r e.til now
def z00(l:List Ent)(now:Int)(s:ByteArray):Ent:=(z2c l now s).getD zwk
def z1a(l:List Ent)(now:Int)(s:ByteArray):Bool:=(z2c l now s).isSome
theorem zoc{l:List Ent}(hr:rises (ltK Ent.key) l=true){i j:Nat}{a b:Ent}(ha:l[i]? = some a)(hb:l[j]? = some b)(h:a.key=b.key):a=b:=by
 have h1:=zee Ent.key hr ha
 have h2:=zee Ent.key hr hb
 rw[h] at h1
 have:i=j:=by rw[←h1,←h2]
 subst this
 rw[ha] at hb
 exact Option.some.inj hb
theorem zf2{l:List Ent}(hr:rises (ltK Ent.key) l=true){i:Nat}{e:Ent}(he:l[i]? = some e)(now:Int):z2c l now e.key=if z1r e.til now=true then none else some e:=by
 unfold z2c
 by_cases hg:z1r e.til now=true
 ·rw[if_pos hg,List.find?_eq_none]
  intro x hx hp
  obtain⟨j,hj⟩:=List.getElem?_of_mem hx
  simp at hp
  have:=zoc hr hj he hp.1
  rw[this,hg] at hp
  exact absurd hp.2 (by decide)
 ·rw[if_neg hg]
  rcases hf:l.find? (fun x=>decide (x.key=e.key)&&!z1r x.til now) with _|x
  ·have:=List.find?_eq_none.1 hf e (List.mem_of_getElem? he)
   simp at this
   exact absurd this hg
  ·have h1:=List.find?_some hf
   have h2:=List.mem_of_find?_eq_some hf
   obtain⟨j,hj⟩:=List.getElem?_of_mem h2
   simp at h1
   rw[hf,zoc hr hj he h1.1]
theorem zoz{l:List Ent}(hr:rises (ltK Ent.key) l=true){s:ByteArray}(h:z5r Ent.key l s=false)(now:Int):z2c l now s=none:=by
 unfold z2c
 rw[List.find?_eq_none]
 intro x hx hp
 simp at hp
 obtain⟨j,hj⟩:=List.getElem?_of_mem hx
 have:=zcm Ent.key hr hj
 rw[hp.1,h] at this
 cases this
def zs2(e:Ent)(b:Bool)(B:Nat)(w:World)(r:Ending)(w':World):Prop:=∃cs,r=.returned (.tuple #[.agg cs,.bool b])∧zdr w' B cs.toList e∧Fr [] w w'
def zqo(e:Ent)(B:Nat)(w:World)(r:Ending)(w':World):Prop:=∃cs,r=.returned (.agg cs)∧zdr w' B cs.toList e∧Fr [] w w'
theorem zo8(w:World)(B:Nat):zdr w B [.string ⟨#[]⟩,.int .i64 0,.string ⟨#[]⟩,.slice none 0 0,.slice none 0 0,.slice none 0 0,.int .i64 0] zwk:=⟨none,0,none,0,none,0,rfl,Sl.nil _ _ _,Sl.nil _ _ _,Sl.nil _ _ _⟩
def set7(w:World)(o:Nat)(a b c d e f g:Value):World:=((((((w.setCell ⟨o,0,none⟩ a).setCell ⟨o,1,none⟩ b).setCell ⟨o,2,none⟩ c).setCell ⟨o,3,none⟩ d).setCell ⟨o,4,none⟩ e).setCell ⟨o,5,none⟩ f).setCell ⟨o,6,none⟩ g
theorem z43{w wr:World}{o:Nat}(h:Fr [] w wr)(ho:w.heap.size≤o)(a b c d e f g:Value):Fr [] w (set7 wr o a b c d e f g):=
 ((((((h.setCell (p:=⟨o,0,none⟩) (.inr ho) _).setCell (p:=⟨o,1,none⟩) (.inr ho) _).setCell (p:=⟨o,2,none⟩) (.inr ho) _).setCell (p:=⟨o,3,none⟩) (.inr ho) _).setCell (p:=⟨o,4,none⟩) (.inr ho) _).setCell (p:=⟨o,5,none⟩) (.inr ho) _).setCell (p:=⟨o,6,none⟩) (.inr ho) _
theorem z95(l:List Ent)(v:Value)(now:Int)(s:ByteArray)(w:World)(B:Nat)(hr:rises (ltK Ent.key) l=true)(hl:l.length≤281474976710656)(hB:B≤w.heap.size)(h:z0v w B v l) :
  Calls prog 105 #[v,.int .i64 now,.string s] w (zs2 (z00 l now s) (z1a l now s) B w):=by
 obtain⟨A,c,rfl⟩:=h.form
 have F0:=hid ((Fr.refl [] w).alloc (.cells #[.string ⟨#[]⟩,.int .i64 0,.string ⟨#[]⟩,.slice none 0 0,.slice none 0 0,.slice none 0 0,.int .i64 0] 45))
 have W0:=hid (Whole.new w 45 [.string ⟨#[]⟩,.int .i64 0,.string ⟨#[]⟩,.slice none 0 0,.slice none 0 0,.slice none 0 0,.int .i64 0])
 have FD:=hid (fun W (hW:Fr [] w W)=>z9w l s A c B W hr hl (Nat.le_trans hB hW.size) (h.fr hW hB (by simp)))
 have HV:=hid h
 have HR:=hid hr
 unfold z4g at FD
 clear h hr
 by_cases hh:z5r Ent.key l s=true
 ·obtain⟨e,he,hk⟩:=(z36 Ent.key).1 hh
  subst hk
  have hlt:=(List.getElem?_eq_some_iff.1 he).1
  obtain⟨b,off,rfl,hb,hc,hmx,hat⟩:=HV.out.at_ (by omega)
  obtain⟨A1,A2,A3,c1,c2,c3,h7⟩:=hat _ e he
  have H7:=hid h7
  have EL:=hid (zf2 HR.out he now)
  have GO:=hid (fun W=>zbr e.til now W)
  rw[hh] at FD
  clear hat h7 he hh
  generalize z1z Ent.key l e.key=k at *
  have ix0:(0:Int)≤(k:Int):=by omega
  have ix1:(k:Int) < (l.length:Int):=by omega
  unfold maxLen at hmx
  by_cases hg:z1r e.til now=true
  ·have E1:=hid (show z2c l now e.key=none from EL.out.trans (if_pos hg))
   rw[hg] at GO
   clear EL hg
   go_enter Tryz.func105,Tryz.ntmps105
   go_wp2_with fail
   refine(FD.out _ F0.out).mono ?_
   rintro e1 w1 ⟨rfl,f1⟩
   have F1:=hid (F0.out.trans f1)
   have W1:=hid (W0.out.fr f1 (by simp))
   have P7:=hid (H7.out.fr F1.out hb hB (by simp))
   obtain⟨x0,x1,x2,x3,x4,x5,x6,-⟩:=P7.out
   clear f1
   go_wp2_with fail
   refine(GO.out _).mono ?_
   rintro e2 w2 ⟨rfl,rfl⟩
   obtain⟨a0,a1,a2,a3,a4,a5,a6⟩:=seven W1.out
   obtain⟨b0,b1,b2,b3,b4,b5,b6⟩:=z3p W1.out
   go_wp2
   refine bodyPost_ret (v:=.tuple #[.agg #[.string ⟨#[]⟩,.int .i64 0,.string ⟨#[]⟩,.slice none 0 0,.slice none 0 0,.slice none 0 0,.int .i64 0],.bool false]) (by simp[results,Tryz.results105,go_sem,a0,a1,a2,a3,a4,a5,a6]) rfl ?_
   unfold z00 z1a
   rw[E1.out]
   exact⟨_,rfl,zo8 _ _,z43 F1.out (Nat.le_refl _) _ _ _ _ _ _ _⟩
  ·have hg':z1r e.til now=false:=by simpa using hg
   have E1:=hid (show z2c l now e.key=some e from EL.out.trans (if_neg hg))
   rw[hg'] at GO
   clear EL hg hg'
   go_enter Tryz.func105,Tryz.ntmps105
   go_wp2_with fail
   refine(FD.out _ F0.out).mono ?_
   rintro e1 w1 ⟨rfl,f1⟩
   have F1:=hid (F0.out.trans f1)
   have W1:=hid (W0.out.fr f1 (by simp))
   have P7:=hid (H7.out.fr F1.out hb hB (by simp))
   obtain⟨x0,x1,x2,x3,x4,x5,x6,-⟩:=P7.out
   clear f1
   go_wp2_with fail
   refine(GO.out _).mono ?_
   rintro e2 w2 ⟨rfl,rfl⟩
   obtain⟨a0,a1,a2,a3,a4,a5,a6⟩:=seven W1.out
   obtain⟨b0,b1,b2,b3,b4,b5,b6⟩:=z3p W1.out
   go_wp2
   refine bodyPost_ret (v:=.tuple #[.agg (z7d e A1 c1 A2 c2 A3 c3).toArray,.bool true]) (by simp[results,Tryz.results105,go_sem,z7d,a0,a1,a2,a3,a4,a5,a6]) rfl ?_
   unfold z00 z1a
   rw[E1.out]
   exact⟨_,rfl,H7.out.ent.fr (z43 F1.out (Nat.le_refl _) _ _ _ _ _ _ _) hB (by simp),z43 F1.out (Nat.le_refl _) _ _ _ _ _ _ _⟩
 ·have hh':z5r Ent.key l s=false:=by simpa using hh
  have E1:=hid (zoz HR.out hh' now)
  rw[hh'] at FD
  clear hh hh'
  generalize z1z Ent.key l s=k at *
  go_enter Tryz.func105,Tryz.ntmps105
  go_wp2_with fail
  refine(FD.out _ F0.out).mono ?_
  rintro e1 w1 ⟨rfl,f1⟩
  have F1:=hid (F0.out.trans f1)
  have W1:=hid (W0.out.fr f1 (by simp))
  clear f1
  obtain⟨a0,a1,a2,a3,a4,a5,a6⟩:=seven W1.out
  obtain⟨b0,b1,b2,b3,b4,b5,b6⟩:=z3p W1.out
  go_wp2
  refine bodyPost_ret (v:=.tuple #[.agg #[.string ⟨#[]⟩,.int .i64 0,.string ⟨#[]⟩,.slice none 0 0,.slice none 0 0,.slice none 0 0,.int .i64 0],.bool false]) (by simp[results,Tryz.results105,go_sem,a0,a1,a2,a3,a4,a5,a6]) rfl ?_
  unfold z00 z1a
  rw[E1.out]
  exact⟨_,rfl,zo8 _ _,z43 F1.out (Nat.le_refl _) _ _ _ _ _ _ _⟩
theorem zob{l:List Ent}{k:Nat}{e:Ent}(h:l[k]? = some e)(p:Ent→Bool):(l.drop k).find? p=if p e=true then some e else (l.drop (k+1)).find? p:=by
 have hk:=(List.getElem?_eq_some_iff.1 h).1
 have e1:l.drop k=e :: l.drop (k+1):=by
  rw[List.drop_eq_getElem_cons hk]
  congr 1
  rw[List.getElem?_eq_getElem hk] at h
  exact Option.some.inj h
 rw[e1,List.find?_cons]
 rcases hp:p e with _|_
 ·rw[if_neg (by decide)]
 ·rw[if_pos rfl]
theorem zd5(l:List Ent)(v:Value)(now:Int)(s:ByteArray)(w:World)(B:Nat)(hl:l.length≤281474976710656)(hB:B≤w.heap.size)(h:z0v w B v l) :
  Calls prog 18 #[v,.int .i64 now,.string s] w (zqo (z00 l now s) B w):=by
 obtain⟨A,c,rfl⟩:=h.form
 have F0:=hid ((Fr.refl [] w).alloc (.cells #[.string ⟨#[]⟩,.int .i64 0,.string ⟨#[]⟩,.slice none 0 0,.slice none 0 0,.slice none 0 0,.int .i64 0] 45))
 have W0:=hid (Whole.new w 45 [.string ⟨#[]⟩,.int .i64 0,.string ⟨#[]⟩,.slice none 0 0,.slice none 0 0,.slice none 0 0,.int .i64 0])
 have HV:=hid h
 clear h
 go_enter Tryz.func18,Tryz.ntmps18
 go_wp2
 go_loopg [7] l.length (fun g i wr=>∃(k:Nat),g=l.length - k∧k≤l.length∧i=.int .i64 k∧Hid (z2c l now s=(l.drop k).find? fun e=>decide (e.key=s)&&!z1r e.til now)∧Whole wr w.heap.size 45 [.string ⟨#[]⟩,.int .i64 0,.string ⟨#[]⟩,.slice none 0 0,.slice none 0 0,.slice none 0 0,.int .i64 0]∧Fr [] w wr)
 case atStart=>exact⟨0,rfl,Nat.zero_le _,rfl,hid rfl,W0.out,F0.out⟩
 case round=>
  obtain⟨k,rfl,hk,rfl,HE,hW,hf⟩:=hrel
  have HF:=hid hf
  have HW:=hid hW
  clear hf hW
  by_cases hlt:k < l.length
  ·obtain⟨b,off,rfl,hb,hc,hmx,hat⟩:=HV.out.at_ (by omega)
   obtain⟨e,he⟩:∃e,l[k]? = some e:=⟨_,List.getElem?_eq_getElem hlt⟩
   obtain⟨A1,A2,A3,c1,c2,c3,h7⟩:=hat k e he
   have P7:=hid (h7.fr HF.out hb hB (by simp))
   obtain⟨x0,x1,x2,x3,x4,x5,x6,-⟩:=P7.out
   have ST:=hid (HE.out.trans (zob he _))
   have ix0:(0:Int)≤(k:Int):=by omega
   have ix1:(k:Int) < (l.length:Int):=by omega
   unfold maxLen at hmx
   clear hat he HE
   by_cases hks:e.key=s
   ·have q1:(e.key.toList==s.toList)=true:=by rw[hks];exact(zts s).1
    have GO:=hid (fun W=>zal (.string e.key) (.int .i64 e.item.kind) (.string e.item.text) (.slice A1 e.item.list.length c1) (.slice A2 e.item.pairs.length c2) (.slice A3 e.item.scores.length c3) e.til now W)
    by_cases hg:z1r e.til now=true
    ·have NX:=hid (ST.out.trans (if_neg (by rw[hg];simp)))
     rw[hg] at GO
     clear ST hks hg
     go_wp2_with fail
     refine(GO.out _).mono ?_
     rintro e1 w1 ⟨rfl,f1⟩
     go_wp2
     go_roundg (l.length - (k+1))
     case measure=>omega
     case rel=>exact⟨k+1,rfl,by omega,by go_num,NX,HW.out.fr f1 (by simp),HF.out.trans f1⟩
    ·have hg':z1r e.til now=false:=by simpa using hg
     have E1:=hid (ST.out.trans (if_pos (by rw[hg',decide_eq_true hks];rfl)))
     rw[hg'] at GO
     clear ST hks hg hg'
     go_wp2_with fail
     refine(GO.out _).mono ?_
     rintro e1 w1 ⟨rfl,f1⟩
     have F1:=hid (HF.out.trans f1)
     have W1:=hid (HW.out.fr f1 (by simp))
     have Q7:=hid (P7.out.fr f1 hb (Nat.le_trans hB HF.out.size) (by simp))
     clear x0 x1 x2 x3 x4 x5 x6 f1
     obtain⟨x0,x1,x2,x3,x4,x5,x6,-⟩:=Q7.out
     obtain⟨a0,a1,a2,a3,a4,a5,a6⟩:=seven W1.out
     obtain⟨b0,b1,b2,b3,b4,b5,b6⟩:=z3p W1.out
     go_wp2
     refine bodyPost_ret (v:=.agg (z7d e A1 c1 A2 c2 A3 c3).toArray) (by simp[results,Tryz.results18,go_sem,z7d,a0,a1,a2,a3,a4,a5,a6]) rfl ?_
     unfold z00
     rw[E1.out]
     exact⟨_,rfl,h7.ent.fr (z43 F1.out (Nat.le_refl _) _ _ _ _ _ _ _) hB (by simp),z43 F1.out (Nat.le_refl _) _ _ _ _ _ _ _⟩
   ·have q1:(e.key.toList==s.toList)=false:=(zwf hks).1
    have NX:=hid (ST.out.trans (if_neg (by rw[decide_eq_false hks];simp)))
    clear ST hks
    go_wp2
    go_roundg (l.length - (k+1))
    case measure=>omega
    case rel=>exact⟨k+1,rfl,by omega,by go_num,NX,HW.out,HF.out⟩
  ·obtain rfl:k=l.length:=by omega
   have E1:=hid (show z2c l now s=none from by rw[HE.out,List.drop_length];rfl)
   obtain⟨a0,a1,a2,a3,a4,a5,a6⟩:=seven HW.out
   obtain⟨b0,b1,b2,b3,b4,b5,b6⟩:=z3p HW.out
   go_wp2
   refine bodyPost_ret (v:=.agg #[.string ⟨#[]⟩,.int .i64 0,.string ⟨#[]⟩,.slice none 0 0,.slice none 0 0,.slice none 0 0,.int .i64 0]) (by simp[results,Tryz.results18,go_sem,a0,a1,a2,a3,a4,a5,a6]) rfl ?_
   unfold z00
   rw[E1.out]
   exact⟨_,rfl,zo8 _ _,z43 HF.out (Nat.le_refl _) _ _ _ _ _ _ _⟩
end Go.Proofs.YtamgdmiopinidaaGreatDoor
