/- Contracts; no condition but each theorem's own. -/
import Derived.Test.YtmkhmejempcimaaGreatDoorSlU8
import Derived.Test.YtmkhmejempcimaaGreatDoorSlU15
set_option linter.unusedVariables false
set_option linter.unusedSimpArgs false
set_option maxHeartbeats 8000000
set_option maxRecDepth 100000
namespace Go.Proofs.YtmkhmejempcimaaGreatDoor
open Lib (hid)
open Go.Proofs.Tryz (prog)
open Go.RowKit
theorem z7q(e:Ent)(A1 A2 A3:Option Addr)(c1 c2 c3:Nat):∀u∈z5q e A1 c1 A2 c2 A3 c3,u.oneCell'=true:=fun u hu=>by
 simp[z5q] at hu;rcases hu with rfl|rfl|rfl|rfl|rfl|rfl|rfl <;> rfl
theorem z1d:9≠74∧108≠74∧110≠74:=by decide
theorem z1a.snoc{w':World}{base:Nat}{v':Value}{l:List Ent}{e:Ent}{cs:List Value}{rs:List (List Value)}(hl:rs.length=l.length)(h:∀(i:Nat) (e:Ent),l[i]? = some e→∃cs:List Value,rs[i]? = some cs∧z1n w' base cs e)(he:z1n w' base cs e)(ho:w'.ownsRow base 74 7 v' (l.length+1) (rs.flatten++cs)):z1a w' base v' (l++[e]):=by
 refine⟨rs++[cs],by simp[hl],fun i x hx=>?_,by simpa using ho⟩;rcases Nat.lt_or_ge i l.length with h1|h1
 ·rw[List.getElem?_append_left h1] at hx;obtain⟨d,h2,h3⟩:=h i x hx;exact⟨d,by rw[List.getElem?_append_left (by omega)];exact h2,h3⟩
 ·have:i=l.length:=by have:=(List.getElem?_eq_some_iff.1 hx).1;simp at this;omega
  subst this;rw[List.getElem?_append_right (Nat.le_refl _),Nat.sub_self] at hx;simp at hx;subst hx;exact⟨cs,by rw[List.getElem?_append_right (by omega),hl,Nat.sub_self];rfl,he⟩
def OwnS(base:Nat)(l:List Ent)(w:World)(r:Ending)(w':World):Prop:=∃u,r=.returned u∧z1a w' base u l∧Fr [] w w'
theorem z74(l:List Ent)(v:Value)(w:World)(B:Nat)(hs:∀e∈l,e.Small)(h24:∀e∈l,e.item.list.length≤1000000∧e.item.pairs.length≤1000000∧e.item.scores.length≤1000000)(hl:l.length≤1000000)(hB:B≤w.heap.size)(h:z1g w B v l):
  Calls prog 65 #[v] w (OwnS w.heap.size l w):=by
 obtain⟨i0,hi,hz0,hz1,hz2⟩:=info_parts z6m;obtain⟨A,c,rfl⟩:=h.form;have HV:=hid h;have HS:=hid hs;have H24:=hid h24;clear h hs h24;go_enter Tryz.func65,Tryz.ntmps65;go_wp2;go_loopg [3,8] l.length (fun g o i wr=>∃(k:Nat),g=l.length - k∧k≤l.length∧i=.int .i64 k∧z1a wr w.heap.size o (l.take k)∧Fr [] w wr)
 case atStart=>exact⟨0,rfl,Nat.zero_le _,rfl,by rw[List.take_zero];exact z1a.nil _ _,Fr.refl _ _⟩
 case round=>
  obtain⟨k,rfl,hk,rfl,hO,hf⟩:=hrel;have HF:=hid hf;have HO:=hid hO;have hlt0:(l.take k).length=k:=by rw[List.length_take];omega
  obtain⟨Ao,co,hv⟩:=hO.form;rw[hlt0] at hv;subst hv;clear hf hO hlt0;by_cases hlt:k < l.length
  ·obtain⟨b,off,rfl,hb,hc,hmx,hat⟩:=HV.out.at_ (by omega);obtain⟨e,he⟩:∃e,l[k]? = some e:=⟨_,List.getElem?_eq_getElem hlt⟩;obtain⟨A1,A2,A3,c1,c2,c3,h7⟩:=hat k e he;have hem:=List.mem_of_getElem? he;have P7:=hid (h7.fr HF.out hb hB (by simp));obtain⟨x0,x1,x2,x3,x4,x5,x6,-⟩:=P7.out;have ET:=hid (show l.take (k+1)=l.take k++[e] from by rw[List.take_add_one,he];rfl);have LT:=hid (show(l.take k).length=k from by rw[List.length_take];omega);have V1:=hid (Whole.new wr 74 [.string e.key,.int .i64 e.item.kind,.string e.item.text,.slice A1 e.item.list.length c1,.slice A2 e.item.pairs.length c2,.slice A3 e.item.scores.length c3,.int .i64 e.til]);have F1:=hid ((Fr.refl [] wr).alloc (.cells #[.string e.key,.int .i64 e.item.kind,.string e.item.text,.slice A1 e.item.list.length c1,.slice A2 e.item.pairs.length c2,.slice A3 e.item.scores.length c3,.int .i64 e.til] 74));obtain⟨n1,n2,n3⟩:=H24.out e hem;have OW:=hid (z5k e.item _ _ B (HS.out e hem).item n1 n2 n3 (Nat.le_trans hB (Nat.le_trans HF.out.size F1.out.size)) ((P7.out.ent.fr F1.out (Nat.le_trans hB HF.out.size) (by simp)).item));clear hat h7 he hem n1 n2 n3;go_wp2_with fail;refine OW.out.mono ?_;rintro e2 w2 ⟨u,rfl,hi2,f2⟩;have V2:=hid (V1.out.fr f2 (by simp));have G2:=hid (F1.out.trans f2);have HI2:=hid hi2;obtain⟨P1,p1,P2,p2,P3,p3,rfl⟩:=hi2.form;have hzw2:=V2.out.lt;clear hi2 f2 x0 x1 x2 x3 x4 x5 x6;obtain⟨y0,y1,y2,y3,y4,y5,y6⟩:=seven V2.out;obtain⟨z0,z1,z2,z3,z4,z5,z6⟩:=z9m V2.out;obtain⟨W3,hW3⟩:∃W3,W3=((((w2.setCell ⟨wr.heap.size,1,none⟩ (.int .i64 e.item.kind)).setCell ⟨wr.heap.size,2,none⟩ (.string e.item.text)).setCell ⟨wr.heap.size,3,none⟩ (.slice P1 e.item.list.length p1)).setCell ⟨wr.heap.size,4,none⟩ (.slice P2 e.item.pairs.length p2)).setCell ⟨wr.heap.size,5,none⟩ (.slice P3 e.item.scores.length p3):=⟨_,rfl⟩
   have G3:=hid (show Fr [] wr W3 from by
    rw[hW3];exact((((G2.out.setCell (p:=⟨wr.heap.size,1,none⟩) (.inr (Nat.le_refl _)) _).setCell (p:=⟨wr.heap.size,2,none⟩) (.inr (Nat.le_refl _)) _).setCell (p:=⟨wr.heap.size,3,none⟩) (.inr (Nat.le_refl _)) _).setCell (p:=⟨wr.heap.size,4,none⟩) (.inr (Nat.le_refl _)) _).setCell (p:=⟨wr.heap.size,5,none⟩) (.inr (Nat.le_refl _)) _)
   have V3:=hid (show Whole W3 wr.heap.size 74 [.string e.key,.int .i64 e.item.kind,.string e.item.text,.slice P1 e.item.list.length p1,.slice P2 e.item.pairs.length p2,.slice P3 e.item.scores.length p3,.int .i64 e.til] from by
    rw[hW3];exact((((V2.out.set_ 1 _).set_ 2 _).set_ 3 _).set_ 4 _).set_ 5 _)
   have HI3:=hid (show z1n W3 w.heap.size (z5q e P1 p1 P2 p2 P3 p3) e from by
    rw[hW3];obtain⟨L1,L2,L3,hv,o1,o2,o3⟩:=HI2.out;cases hv;have hbz:wr.heap.size < (wr.alloc (.cells #[.string e.key,.int .i64 e.item.kind,.string e.item.text,.slice A1 e.item.list.length c1,.slice A2 e.item.pairs.length c2,.slice A3 e.item.scores.length c3,.int .i64 e.til] 74)).heap.size:=by simp
    have hwz:=HF.out.size;exact⟨_,_,_,_,_,_,rfl,z09 (z03 (z03 (z03 (z03 (z03 o1 hbz _) hbz _) hbz _) hbz _) hbz _) (by omega),z09 (z03 (z03 (z03 (z03 (z03 o2 hbz _) hbz _) hbz _) hbz _) hbz _) (by omega),z09 (z03 (z03 (z03 (z03 (z03 o3 hbz _) hbz _) hbz _) hbz _) hbz _) (by omega)⟩)
   have HO3:=hid (HO.out.fr G3.out);have HW3:=hid hW3;clear hW3;go_upto_region 6 with fail;rw[←HW3.out];clear HW3 y0 y1 y2 y3 y4 y5 y6 z0 z1 z2 z3 z4 z5 z6;obtain⟨y0,y1,y2,y3,y4,y5,y6⟩:=seven V3.out;obtain⟨rs,hr1,hr2,hr3⟩:=HO3.out;have HR3:=hid (show W3.ownsRow w.heap.size 74 7 (.slice Ao k co) k rs.flatten from by have:=hr3;rw[LT.out] at this;exact this);have HR1:=hid hr1;have HR2:=hid hr2;have hzz:w.heap.size≤W3.heap.size:=Nat.le_trans HF.out.size G3.out.size;have hO1:=hid (z0o (World.ownsRow_lit (base:=W3.heap.size) (e:=74) (size:=7) W3 #[.string e.key,.int .i64 e.item.kind,.string e.item.text,.slice P1 e.item.list.length p1,.slice P2 e.item.pairs.length p2,.slice P3 e.item.scores.length p3,.int .i64 e.til] 1 (Nat.le_refl _) (by decide) rfl));clear hr1 hr2 hr3;go_wp2_with (at_builtin;refine z0b _ rfl _ _ 28 rfl w.heap.size 74 i0 _ 7 120 Tryz.underlying28 hi hz0 hz1 hz2 rfl (by decide) _ _ _ rfl (HR3.out.alloc _) _ _ 1 _ rfl hO1.out (z7q e P1 P2 P3 p1 p2 p3) ?c1 ?c2 ?c3 ?_)
   case c1=>unfold maxLen;omega
   case c2=>omega
   case c3=>first|omega|(simp;omega)
   intro v' w5 hown hgrow hat5;have HO5:=hid hown;have HG5:=hid hgrow;clear hown hgrow hat5;have F5:=hid (HF.out.trans (G3.out.alloc (.cells #[.string e.key,.int .i64 e.item.kind,.string e.item.text,.slice P1 e.item.list.length p1,.slice P2 e.item.pairs.length p2,.slice P3 e.item.scores.length p3,.int .i64 e.til] 74)))
   have HE:=hid (show z1a w5 w.heap.size v' (l.take (k+1)) from by
    rw[ET.out];have ff:=z1q HG5.out;have oa:=HR3.out.alloc (.cells #[.string e.key,.int .i64 e.item.kind,.string e.item.text,.slice P1 e.item.list.length p1,.slice P2 e.item.pairs.length p2,.slice P3 e.item.scores.length p3,.int .i64 e.til] 74);refine z1a.snoc HR1.out (fun i x hx=>?_) ((HI3.out.fr ((Fr.refl [] W3).alloc _)).row oa z1d ff) (by rw[LT.out];exact HO5.out);obtain⟨d,h3,h4⟩:=HR2.out i x hx;exact⟨d,h3,(h4.fr ((Fr.refl [] W3).alloc _)).row oa z1d ff⟩)
   have F6:=hid (F5.out.grown HG5.out (fun j hj=>.inr (HR3.out.lt j hj).1));go_wp2;go_roundg (l.length - (k+1))
   case measure=>omega
   case rel=>exact⟨k+1,rfl,by omega,by go_num,HE.out,F6.out⟩
  ·obtain rfl:k=l.length:=by omega
   rw[List.take_length] at HO;go_wp2;go_ret;exact⟨_,rfl,HO.out,HF.out⟩
theorem two{w:World}{g t:Nat}{a b:Value}(hw:Whole w g t [a,b]):w.cell? ⟨g,0,none⟩=some a∧w.cell? ⟨g,1,none⟩=some b:=⟨hw.cell 0,hw.cell 1⟩
theorem zcs{w:World}{g t:Nat}{a b:Value}(hw:Whole w g t [a,b]):w.frozen? ⟨g,0,none⟩=false∧w.frozen? ⟨g,1,none⟩=false:=⟨hw.frozen 0,hw.frozen 1⟩
theorem z9v:∀ {ls:List (List ByteArray)},(∀l∈ls,l.length≤4)→ls.flatten.length≤4 * ls.length
 | [],_=>by simp
 | l :: ls,h=>by
  have h1:=h l (.head _);have h2:=z9v (ls:=ls) (fun x hx=>h x (.tail _ hx));rw[List.flatten_cons,List.length_append,List.length_cons];omega
theorem z9k{α:Type}{ls:List (List α)}{m:Nat}{l:List α}(h:ls[m]? = some l):(ls.take (m+1)).flatten=(ls.take m).flatten++l:=by rw[List.take_add_one,h];simp
theorem zdg(ls:List (List ByteArray))(A:Option Addr)(c:Nat)(w:World)(B:Nat)(h8:ls.length≤8)(h4:∀l∈ls,l.length≤4)(hB:B≤w.heap.size)(h:z2p w B (.slice A ls.length c) ls):
  Calls prog 53 #[.slice A ls.length c] w (z6u 9 1 ls.flatten.length (z04 ls.flatten) w):=by
 obtain⟨i0,hi,hz0,hz1,hz2⟩:=info_parts z2k;have HV:=hid h;have H4:=hid h4
 have LE:=hid (fun m=>(show(ls.take m).flatten.length≤32 from by
  have h1:=z9v (ls:=ls.take m) (fun x hx=>h4 x (List.mem_of_mem_take hx));have h2:(ls.take m).length≤8:=by rw[List.length_take];omega
  omega))
 clear h h4;go_enter Tryz.func53,Tryz.ntmps53;go_wp2;go_loopg [3,11] ls.length (fun k s i wr=>∃(m:Nat),k=ls.length - m∧m≤ls.length∧i=.int .i64 m∧s=.int .i64 ((ls.take m).flatten.length:Nat)∧w=wr)
 case atStart=>exact⟨0,rfl,by omega,rfl,rfl,rfl⟩
 case round=>
  obtain⟨m,rfl,hm,rfl,rfl,rfl⟩:=hrel;by_cases hlt:m < ls.length
  ·obtain⟨b,off,rfl,hb,hcx,hmx,hat⟩:=HV.out.at_ (by omega);obtain⟨l,hl⟩:∃l,ls[m]? = some l:=⟨_,List.getElem?_eq_getElem hlt⟩;obtain⟨A1,c1,x0,-⟩:=hat m l hl;have hl4:=H4.out l (List.mem_of_getElem? hl);have hS:=LE.out m;have ET:=hid (show(ls.take (m+1)).flatten.length=(ls.take m).flatten.length+l.length from by rw[z9k hl,List.length_append]);clear hat hl;generalize (ls.take m).flatten.length=S at *;go_wp2;go_roundg (ls.length - (m+1))
   case measure=>omega
   case rel=>exact⟨m+1,rfl,by omega,by go_num,by rw[ET.out];go_num,rfl⟩
  obtain rfl:m=ls.length:=by omega
  obtain⟨N,hN⟩:∃N,N=ls.flatten.length:=⟨_,rfl⟩;have hab:N≤32:=by have:=LE.out ls.length;rw[List.take_length] at this;omega
  rw[List.take_length,←hN];have HN:=hid hN;clear hN;go_wp2_with fail;refine(zbt N _ (by omega)).mono ?_;rintro e w1 ⟨v,rfl,ho,hf⟩;have HO:=hid ho;have HF:=hid hf;have hz:=hf.size;obtain⟨Av,cv,rfl,-⟩:=z02 ho;clear ho hf;go_wp2;go_loopg [6,27] ls.length (fun k v i wr=>∃(m:Nat),k=ls.length - m∧m≤ls.length∧i=.int .i64 m∧wr.ownsRow w.heap.size 9 1 v (ls.take m).flatten.length (z04 (ls.take m).flatten)∧Fr [] w wr)
  case atStart=>exact⟨0,rfl,by omega,rfl,HO.out,HF.out⟩
  case round=>
  obtain⟨m,rfl,hm,rfl,ho,hf⟩:=hrel;have hzr:=hf.size;have HF1:=hid hf;have HO1:=hid ho;obtain⟨Am,cm,rfl,-⟩:=z02 ho;clear ho hf;by_cases hlt:m < ls.length
  ·obtain⟨b,off,rfl,hb,hcx,hmx,hat⟩:=HV.out.at_ (by omega);obtain⟨l,hl⟩:∃l,ls[m]? = some l:=⟨_,List.getElem?_eq_getElem hlt⟩;obtain⟨A1,c1,x0,s0⟩:=hat m l hl;have hl4:=H4.out l (List.mem_of_getElem? hl);have hS:=LE.out m;have EF:=hid (z9k hl);have x1:=HF1.out.cell x0 (by simp);have S1:=hid (s0.fr HF1.out hB (by simp));clear hat hl x0 s0;generalize (ls.take m).flatten=T at *;go_wp2_with (at_builtin;refine z0b _ rfl _ _ 41 rfl w.heap.size 9 i0 _ 1 16 Tryz.underlying41 hi hz0 hz1 hz2 rfl (by decide) _ _ _ rfl HO1.out B _ l.length (z04 l) rfl S1.out (z3b l) ?c1 ?c2 ?c3 ?_)
   case c1=>unfold maxLen;omega
   case c2=>omega
   case c3=>omega
   intro v' w2 hown' hgrow hat;have HO2:=hid hown';have HF2:=hid (HF1.out.grown hgrow (fun k hk=>.inr (HO1.out.lt k hk).1));clear hown' hgrow hat x1;go_wp2;go_roundg (ls.length - (m+1))
   case measure=>omega
   case rel=>exact⟨m+1,rfl,by omega,by go_num,by rw[EF.out,List.length_append,z4c];exact HO2.out,HF2.out⟩
  obtain rfl:m=ls.length:=by omega
  rw[List.take_length] at HO1;go_wp2;go_ret;exact⟨_,rfl,by rw[List.take_length];exact HO1.out,HF1.out⟩
def z63(s:Sto):Int:=if z4m s=true then 2 else zad s.segs.flatten
theorem zlz(A:Option Addr)(n c:Nat)(W:World)(hn:n≤281474976710656):Calls prog 52 (#[.slice A n c]++#[]) W fun e w'=>e=.returned (.bool (decide (4 < n)))∧Fr [] W w':=by
 by_cases h:4 < n
 ·have q:(n:Int) > 4:=by omega
  rw[decide_eq_true h];clear h;go_enter Tryz.func52,Tryz.ntmps52;go_wp2;go_ret;exact⟨rfl,Fr.refl _ _⟩
 ·have q:¬(n:Int) > 4:=by omega
  rw[decide_eq_false h];clear h;go_enter Tryz.func52,Tryz.ntmps52;go_wp2;go_ret;exact⟨rfl,Fr.refl _ _⟩
theorem zhl{l:List ByteArray}{k:Nat}{s:ByteArray}(h:l[k]? = some s):zad (l.drop k)=if z0u s≠0 then z0u s else zad (l.drop (k+1)):=by
 rw[zbw h];rfl
theorem zdd(s:Sto)(v:Value)(w:World)(B:Nat)(hs:s.Small)(hB:B≤w.heap.size)(h:z2h w B v s):
  Calls prog 29 #[v] w fun e w'=>e=.returned (.int .i64 (z63 s))∧Fr [] w w':=by
 obtain⟨a,b,rfl,h1,h2⟩:=h;obtain⟨A1,c1,rfl⟩:=h1.form;obtain⟨A2,c2,rfl⟩:=h2.form;have F1:=hid ((Fr.refl [] w).alloc (.cells #[.slice A1 s.slots.length c1,.slice A2 s.segs.length c2] 25));have W1:=hid (Whole.new w 25 [.slice A1 s.slots.length c1,.slice A2 s.segs.length c2]);obtain⟨x0,x1⟩:=two W1.out;have hle:=hs.le;have hsle:=hs.sle;have HR:=hid (h2.fr F1.out hB (by simp));have hBw:B≤(w.alloc (.cells #[.slice A1 s.slots.length c1,.slice A2 s.segs.length c2] 25)).heap.size:=Nat.le_trans hB F1.out.size;have HBW:=hid hBw;have HS:=hid hs.segs;have EM:z4m s=(decide (16 < s.slots.length)||decide (8 < s.segs.length)||s.segs.any (fun l=>decide (4 < l.length))):=rfl
 have ER:z63 s=if z4m s=true then 2 else zad s.segs.flatten:=rfl
 clear h1 h2 hs hBw;by_cases h16:16 < s.slots.length
 ·have E:z63 s=2:=by rw[ER,EM,decide_eq_true h16];rfl
  have q:(s.slots.length:Int) > 16:=by omega
  rw[E];clear E ER EM h16;go_enter Tryz.func29,Tryz.ntmps29;go_wp2;go_ret;exact⟨rfl,F1.out⟩
 have q1:¬(s.slots.length:Int) > 16:=by omega
 rw[decide_eq_false h16,Bool.false_or] at EM;by_cases h8:8 < s.segs.length
 ·have E:z63 s=2:=by rw[ER,EM,decide_eq_true h8];rfl
  have q:(s.segs.length:Int) > 8:=by omega
  rw[E];clear E ER EM h16 h8;go_enter Tryz.func29,Tryz.ntmps29;go_wp2;go_ret;exact⟨rfl,F1.out⟩
 have q2:¬(s.segs.length:Int) > 8:=by omega
 rw[decide_eq_false h8,Bool.false_or] at EM;have CR:=hid (zlc 52 #[] (z3z Tryz.func52 (by kernel_rfl) rfl) (fun l=>decide (4 < l.length)) s.segs A2 c2 B _ (fun W e A3 c3 he hW=>zlz A3 e.length c3 W (HS.out e he).1) hsle HBW.out HR.out);by_cases h4:s.segs.any (fun l=>decide (4 < l.length))=true
 ·have E:z63 s=2:=by rw[ER,EM,h4];rfl
  rw[h4] at CR;rw[E];clear E ER EM h16 h8 h4;go_enter Tryz.func29,Tryz.ntmps29;go_wp2_with fail;refine CR.out.mono ?_;rintro e2 w2 ⟨rfl,f2⟩;go_wp2;go_ret;exact⟨rfl,F1.out.trans f2⟩
 have h4':s.segs.any (fun l=>decide (4 < l.length))=false:=by simpa using h4
 have E:z63 s=zad s.segs.flatten:=by rw[ER,EM,h4'];rfl
 have H4:=hid (show ∀l∈s.segs,l.length≤4 from fun l hl=>by
  have:=List.any_eq_false.1 h4' l hl;simp at this;omega)
 rw[h4'] at CR;rw[E]
 have HL:=hid (show ∀t∈s.segs.flatten,t.size≤281474976710656 from fun t ht=>by
  obtain⟨l,hl,ht⟩:=List.mem_flatten.1 ht;exact(HS.out l hl).2 t ht)
 have CN:=hid (fun W (hW:Fr [] (w.alloc (.cells #[.slice A1 s.slots.length c1,.slice A2 s.segs.length c2] 25)) W)=>zdg s.segs A2 c2 W B (by omega) H4.out (Nat.le_trans HBW.out hW.size) (HR.out.fr hW HBW.out (by simp)));have hfl:s.segs.flatten.length≤32:=by have:=z9v H4.out;omega
 generalize s.segs.flatten=L at *;clear E ER EM h16 h8 h4 h4';go_enter Tryz.func29,Tryz.ntmps29;go_wp2_with fail;refine CR.out.mono ?_;rintro e2 w2 ⟨rfl,f2⟩;have W2:=hid (W1.out.fr f2 (by simp));have F2:=hid (F1.out.trans f2);have CN2:=hid (CN.out _ f2);clear f2 x0 x1 CN CR;obtain⟨x0,x1⟩:=two W2.out;go_wp2_with fail;refine CN2.out.mono ?_;rintro e3 w3 ⟨u,rfl,ho,f3⟩;have F3:=hid (F2.out.trans f3);have SO:=hid (z0o ho);obtain⟨U,cu,rfl,-⟩:=z02 ho;clear f3 ho x0 x1 CN2;go_wp2;go_loopg [26] L.length (fun g i wr=>∃(k:Nat),g=L.length - k∧k≤L.length∧i=.int .i64 k∧Hid (zad L=zad (L.drop k))∧Fr [] w3 wr)
 case atStart=>exact⟨0,rfl,Nat.zero_le _,rfl,hid rfl,Fr.refl _ _⟩
 case round=>
  obtain⟨k,rfl,hk,rfl,HE,hf⟩:=hrel;have HF:=hid hf;clear hf;by_cases hlt:k < L.length
  ·obtain⟨b,off,rfl,hb,hc,hmx,hat⟩:=SO.out.at_ (by omega);obtain⟨t,ht⟩:∃t,L[k]? = some t:=⟨_,List.getElem?_eq_getElem hlt⟩;have y0:=HF.out.cell (hat k _ (z0x _ _ _ ht)) (by simp);have ST:=hid (HE.out.trans (zhl ht));have DE:=hid (fun W=>z9j t W (HL.out t (List.mem_of_getElem? ht)));unfold zdw at DE;clear hat ht HE;by_cases h0:z0u t=0
   ·rw[h0] at DE;have NX:=hid (show zad L=zad (L.drop (k+1)) from by rw[ST.out,if_neg (by simpa using h0)]);clear ST h0;go_wp2_with fail;refine(DE.out _).mono ?_;rintro e4 w4 ⟨z,rfl,hz,f4⟩;obtain⟨P1,p1,P2,p2,P3,p3,rfl⟩:=hz.form;have F4:=hid (HF.out.trans (f4.alloc (.cells #[.int .i64 (z06 t).kind,.string (z06 t).text,.slice P1 (z06 t).list.length p1,.slice P2 (z06 t).pairs.length p2,.slice P3 (z06 t).scores.length p3] 46)));clear hz f4 y0;go_wp2;go_roundg (L.length - (k+1))
    case measure=>omega
    case rel=>exact⟨k+1,rfl,by omega,by go_num,NX,F4.out⟩
   ·have E:=hid (show zad L=z0u t from by rw[ST.out,if_pos h0]);have q:(z0u t != 0)=true:=by simpa using h0
    clear ST h0;generalize z0u t=r at *;go_wp2_with fail;refine(DE.out _).mono ?_;rintro e4 w4 ⟨z,rfl,hz,f4⟩;obtain⟨P1,p1,P2,p2,P3,p3,rfl⟩:=hz.form;have F4:=hid (HF.out.trans (f4.alloc (.cells #[.int .i64 (z06 t).kind,.string (z06 t).text,.slice P1 (z06 t).list.length p1,.slice P2 (z06 t).pairs.length p2,.slice P3 (z06 t).scores.length p3] 46)));clear hz f4 y0;go_wp2;go_ret;rw[E.out];exact⟨rfl,F3.out.trans F4.out⟩
  ·obtain rfl:k=L.length:=by omega
   have E:=hid (show zad L=0 from by rw[HE.out,List.drop_length];rfl);go_wp2;go_ret;rw[E.out];exact⟨rfl,F3.out.trans HF.out⟩
theorem zj7(ss:List (List ByteArray))(u:Value)(A2:Option Addr)(c2:Nat)(a b:Int)(w:World)(B:Nat)(hs:∀l∈ss,l.length≤281474976710656)(hl:ss.length≤281474976710656)(hu:u.oneCell'=true)(ha:-9223372036854775808≤a∧a≤9223372036854775807)(hb:-9223372036854775808≤b∧b≤9223372036854775807)(hB:B≤w.heap.size)(h:z2p w B (.slice A2 ss.length c2) ss):
  Calls prog 58 #[.agg #[u,.slice A2 ss.length c2],.agg #[.int .i64 a,.int .i64 b]] w fun e w'=>e=.returned (.bool (z1b ss a b))∧Fr [] w w':=by
 have F1:=hid (((Fr.refl [] w).alloc (.cells #[u,.slice A2 ss.length c2] 25)).alloc (.cells #[.int .i64 a,.int .i64 b] 48));have W1:=hid ((Whole.new w 25 [u,.slice A2 ss.length c2]).alloc (.cells #[.int .i64 a,.int .i64 b] 48));have V1:=hid (Whole.new (w.alloc (.cells #[u,.slice A2 ss.length c2] 25)) 48 [.int .i64 a,.int .i64 b]);obtain⟨x0,x1⟩:=two W1.out;obtain⟨y0,y1⟩:=two V1.out;have EB:z1b ss a b=(decide (0≤a)&&decide (a < ss.length)&&decide (0≤b)&&decide (b < (ss.getD a.toNat []).length)):=rfl;have HV:=hid h;clear h;by_cases h1:0≤a
 ·by_cases h2:a < ss.length
  ·by_cases h3:0≤b
   ·obtain⟨i,rfl⟩:∃i:Nat,a=i:=⟨a.toNat,by omega⟩;obtain⟨l,hli⟩:∃l,ss[i]? = some l:=⟨_,List.getElem?_eq_getElem (show i < ss.length by omega)⟩;have hll:=hs l (List.mem_of_getElem? hli);obtain⟨g,off,rfl,hg,hc,hmx,hat⟩:=HV.out.at_ (by omega);obtain⟨A1,c1,z0,-⟩:=hat i l hli;have z1:=F1.out.cell z0 (by simp)
    have E2:z1b ss i b=decide (b < l.length):=by
     have e:ss.getD (i:Int).toNat []=l:=by rw[Int.toNat_natCast,List.getD_eq_getElem?_getD,hli];rfl
     rw[EB,decide_eq_true h1,decide_eq_true h2,decide_eq_true h3];simp only[Bool.true_and,e]
    rw[E2];have q1:decide (0≤(i:Int))=true:=decide_eq_true h1;have q2:decide ((i:Int) < (ss.length:Int))=true:=decide_eq_true h2;have q3:decide (0≤b)=true:=decide_eq_true h3;unfold maxLen at hmx;clear EB E2 hat z0 hli;by_cases h4:b < l.length
    ·have q4:decide (b < (l.length:Int))=true:=decide_eq_true h4;rw[q4];go_enter Tryz.func58,Tryz.ntmps58;go_wp2;go_quiet (fail);go_wp2;go_ret;exact⟨rfl,by first|exact F1.out|exact F1.out.drewN _⟩
    ·have q4:decide (b < (l.length:Int))=false:=decide_eq_false h4;rw[q4];go_enter Tryz.func58,Tryz.ntmps58;go_wp2;go_quiet (fail);go_wp2;go_ret;exact⟨rfl,by first|exact F1.out|exact F1.out.drewN _⟩
   ·have E2:z1b ss a b=false:=by rw[EB,decide_eq_false h3];simp
    rw[E2];have q1:decide (0≤a)=true:=decide_eq_true h1;have q2:decide (a < (ss.length:Int))=true:=decide_eq_true h2;have q3:decide (0≤b)=false:=decide_eq_false h3;clear EB E2;go_enter Tryz.func58,Tryz.ntmps58;go_wp2;go_quiet (fail);go_wp2;go_ret;exact⟨rfl,by first|exact F1.out|exact F1.out.drewN _⟩
  ·have E2:z1b ss a b=false:=by rw[EB,decide_eq_false h2];simp
   rw[E2];have q1:decide (0≤a)=true:=decide_eq_true h1;have q2:decide (a < (ss.length:Int))=false:=decide_eq_false h2;clear EB E2;go_enter Tryz.func58,Tryz.ntmps58;go_wp2;go_quiet (fail);go_wp2;go_ret;exact⟨rfl,by first|exact F1.out|exact F1.out.drewN _⟩
 ·have E2:z1b ss a b=false:=by rw[EB,decide_eq_false h1];simp
  rw[E2];have q1:decide (0≤a)=false:=decide_eq_false h1;clear EB E2;go_enter Tryz.func58,Tryz.ntmps58;go_wp2;go_quiet (fail);go_wp2;go_ret;exact⟨rfl,by first|exact F1.out|exact F1.out.drewN _⟩
end Go.Proofs.YtmkhmejempcimaaGreatDoor
