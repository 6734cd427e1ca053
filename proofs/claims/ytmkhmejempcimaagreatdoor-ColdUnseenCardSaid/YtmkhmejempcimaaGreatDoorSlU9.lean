/- Contracts; no condition but each theorem's own. -/
import Derived.Test.YtmkhmejempcimaaGreatDoorSlU6
set_option linter.unusedVariables false
set_option linter.unusedSimpArgs false
set_option maxHeartbeats 8000000
set_option maxRecDepth 100000
namespace Go.Proofs.YtmkhmejempcimaaGreatDoor
open Lib (hid)
open Go.Proofs.Tryz (prog)
open Go.RowKit
theorem zh6(a b:List ByteArray)(A1 A2:Option Addr)(c1 c2 B:Nat)(w:World)(la:a.length≤281474976710656)(lb:b.length≤281474976710656)(hB:B≤w.heap.size)
  (h1:Sl w B 1 (.slice A1 a.length c1) a.length (z04 a)) (h2:Sl w B 1 (.slice A2 b.length c2) b.length (z04 b)):
  Calls prog 166 #[.slice A1 a.length c1,.slice A2 b.length c2] w fun e w'=>e=.returned (.bool (decide (a=b)))∧Fr [] w w':=by
 have H1:=hid h1;have H2:=hid h2;clear h1 h2;by_cases hl:a.length=b.length
 ·have HL:=hid hl;have q1:((a.length:Int) != (b.length:Int))=false:=by simp[hl]
  have hle:b.length≤a.length:=by omega
  have hle2:a.length≤b.length:=by omega
  clear hl;go_enter Tryz.func166,Tryz.ntmps166;go_wp2;clear q1;go_loopg [13] a.length (fun g i wr=>∃(m:Nat),g=a.length - m∧i=.int .i64 m∧m≤a.length∧Ahead a b m∧Fr [] w wr)
  case atStart=>exact⟨0,rfl,rfl,Nat.zero_le _,z33 _ _,Fr.refl _ _⟩
  case round=>
   obtain⟨m,rfl,rfl,hm,hA,hf⟩:=hrel;have HA:=hid hA;clear hA;by_cases hlt:m < a.length
   ·obtain⟨s,hs⟩:∃s,a[m]? = some s:=⟨_,List.getElem?_eq_getElem hlt⟩;obtain⟨t,ht⟩:∃t,b[m]? = some t:=⟨_,List.getElem?_eq_getElem (by omega)⟩;obtain⟨g1,o1,rfl,hb1,hc1,hm1,hcell1⟩:=H1.out.at_ (by omega);obtain⟨g2,o2,rfl,hb2,hc2,hm2,hcell2⟩:=H2.out.at_ (by omega);have x1:wr.cell? ⟨g1,o1+m,none⟩=some (.string s):=hf.cell (hcell1 m _ (z0x a m s hs)) (by simp);have x2:wr.cell? ⟨g2,o2+m,none⟩=some (.string t):=hf.cell (hcell2 m _ (z0x b m t ht)) (by simp);have hlt2:m < b.length:=by omega
    by_cases e:s=t
    ·have N:=hid (z34 HA.out hs (by rw[e];exact ht));subst e;obtain⟨q1,q2⟩:=zf7 s;clear hcell1 hcell2 hs ht;go_wp2;go_quiet (fail);go_wp2;go_roundg (a.length - (m+1))
     case measure=>omega
     case rel=>exact⟨m+1,rfl,rfl,by omega,N.out,hf.drewN _⟩
    ·have N:=hid (show decide (a=b)=false from decide_eq_false (z57 hs ht e));obtain⟨q1,q2⟩:=zk1 e;clear hcell1 hcell2 hs ht;go_wp2;go_quiet (fail);go_wp2;go_ret;rw[N.out];exact⟨rfl,hf.drewN _⟩
   ·have N:=hid (show decide (a=b)=true from decide_eq_true (z3y HA.out (by omega) HL.out));go_wp2;go_ret;rw[N.out];exact⟨rfl,hf⟩
 ·have N:=hid (show decide (a=b)=false from decide_eq_false (fun e=>hl (by rw[e])));have q1:((a.length:Int) != (b.length:Int))=true:=by simp;omega
  clear hl;go_enter Tryz.func166,Tryz.ntmps166;go_wp2;go_ret;rw[N.out];exact⟨rfl,Fr.refl _ _⟩
theorem zgt(a b:List (ByteArray×ByteArray))(A1 A2:Option Addr)(c1 c2 B:Nat)(w:World)(la:a.length≤281474976710656)(lb:b.length≤281474976710656)(hB:B≤w.heap.size)
  (h1:Sl w B 2 (.slice A1 a.length c1) a.length (z0t a)) (h2:Sl w B 2 (.slice A2 b.length c2) b.length (z0t b)):
  Calls prog 167 #[.slice A1 a.length c1,.slice A2 b.length c2] w fun e w'=>e=.returned (.bool (decide (a=b)))∧Fr [] w w':=by
 have H1:=hid h1;have H2:=hid h2;clear h1 h2;by_cases hl:a.length=b.length
 ·have HL:=hid hl;have q1:((a.length:Int) != (b.length:Int))=false:=by simp[hl]
  have hle:b.length≤a.length:=by omega
  have hle2:a.length≤b.length:=by omega
  clear hl;go_enter Tryz.func167,Tryz.ntmps167;go_wp2;clear q1;go_loopg [13] a.length (fun g i wr=>∃(m:Nat),g=a.length - m∧i=.int .i64 m∧m≤a.length∧Ahead a b m∧Fr [] w wr)
  case atStart=>exact⟨0,rfl,rfl,Nat.zero_le _,z33 _ _,Fr.refl _ _⟩
  case round=>
   obtain⟨m,rfl,rfl,hm,hA,hf⟩:=hrel;have HA:=hid hA;clear hA;by_cases hlt:m < a.length
   ·obtain⟨s,hs⟩:∃s,a[m]? = some s:=⟨_,List.getElem?_eq_getElem hlt⟩;obtain⟨t,ht⟩:∃t,b[m]? = some t:=⟨_,List.getElem?_eq_getElem (by omega)⟩;obtain⟨g1,o1,rfl,hb1,hc1,hm1,hcell1⟩:=H1.out.at_ (by omega);obtain⟨g2,o2,rfl,hb2,hc2,hm2,hcell2⟩:=H2.out.at_ (by omega);have x1:wr.cell? ⟨g1,o1+2 * m,none⟩=some (.string s.1):=hf.cell (hcell1 (2 * m) _ (z0j a m s hs).1) (by simp);have y1:wr.cell? ⟨g1,o1+2 * m+1,none⟩=some (.string s.2):=hf.cell (hcell1 (2 * m+1) _ (z0j a m s hs).2) (by simp);have x2:wr.cell? ⟨g2,o2+2 * m,none⟩=some (.string t.1):=hf.cell (hcell2 (2 * m) _ (z0j b m t ht).1) (by simp);have y2:wr.cell? ⟨g2,o2+2 * m+1,none⟩=some (.string t.2):=hf.cell (hcell2 (2 * m+1) _ (z0j b m t ht).2) (by simp);rw[Nat.mul_comm 2 m] at x1 x2 y1 y2;have hlt2:m < b.length:=by omega
    by_cases e:s=t
    ·have N:=hid (z34 HA.out hs (by rw[e];exact ht));subst e;obtain⟨q1,q2⟩:=zf7 s.1;obtain⟨q3,q4⟩:=zf7 s.2;clear hcell1 hcell2 hs ht;go_wp2;go_quiet (fail);go_wp2;go_roundg (a.length - (m+1))
     case measure=>omega
     case rel=>exact⟨m+1,rfl,rfl,by omega,N.out,hf.drewN _⟩
    ·have N:=hid (show decide (a=b)=false from decide_eq_false (z57 hs ht e));by_cases e1:s.1=t.1
     ·have e2:s.2≠t.2:=fun e2=>e (Prod.ext e1 e2);obtain⟨q3,q4⟩:=zk1 e2;have q1:(s.1.toList==t.1.toList)=true:=by rw[e1];exact(zf7 t.1).1
      clear hcell1 hcell2 hs ht;go_wp2;go_quiet (fail);go_wp2;go_ret;rw[N.out];exact⟨rfl,hf.drewN _⟩
     ·obtain⟨q1,q2⟩:=zk1 e1;clear hcell1 hcell2 hs ht;go_wp2;go_quiet (fail);go_wp2;go_ret;rw[N.out];exact⟨rfl,hf.drewN _⟩
   ·have N:=hid (show decide (a=b)=true from decide_eq_true (z3y HA.out (by omega) HL.out));go_wp2;go_ret;rw[N.out];exact⟨rfl,hf⟩
 ·have N:=hid (show decide (a=b)=false from decide_eq_false (fun e=>hl (by rw[e])));have q1:((a.length:Int) != (b.length:Int))=true:=by simp;omega
  clear hl;go_enter Tryz.func167,Tryz.ntmps167;go_wp2;go_ret;rw[N.out];exact⟨rfl,Fr.refl _ _⟩
theorem zgp(a b:List (Int×ByteArray))(A1 A2:Option Addr)(c1 c2 B:Nat)(w:World)(la:a.length≤281474976710656)(lb:b.length≤281474976710656)(hB:B≤w.heap.size)
  (h1:Sl w B 2 (.slice A1 a.length c1) a.length (z0h a)) (h2:Sl w B 2 (.slice A2 b.length c2) b.length (z0h b)):
  Calls prog 168 #[.slice A1 a.length c1,.slice A2 b.length c2] w fun e w'=>e=.returned (.bool (decide (a=b)))∧Fr [] w w':=by
 have H1:=hid h1;have H2:=hid h2;clear h1 h2;by_cases hl:a.length=b.length
 ·have HL:=hid hl;have q1:((a.length:Int) != (b.length:Int))=false:=by simp[hl]
  have hle:b.length≤a.length:=by omega
  have hle2:a.length≤b.length:=by omega
  clear hl;go_enter Tryz.func168,Tryz.ntmps168;go_wp2;clear q1;go_loopg [13] a.length (fun g i wr=>∃(m:Nat),g=a.length - m∧i=.int .i64 m∧m≤a.length∧Ahead a b m∧Fr [] w wr)
  case atStart=>exact⟨0,rfl,rfl,Nat.zero_le _,z33 _ _,Fr.refl _ _⟩
  case round=>
   obtain⟨m,rfl,rfl,hm,hA,hf⟩:=hrel;have HA:=hid hA;clear hA;by_cases hlt:m < a.length
   ·obtain⟨s,hs⟩:∃s,a[m]? = some s:=⟨_,List.getElem?_eq_getElem hlt⟩;obtain⟨t,ht⟩:∃t,b[m]? = some t:=⟨_,List.getElem?_eq_getElem (by omega)⟩;obtain⟨g1,o1,rfl,hb1,hc1,hm1,hcell1⟩:=H1.out.at_ (by omega);obtain⟨g2,o2,rfl,hb2,hc2,hm2,hcell2⟩:=H2.out.at_ (by omega);have x1:wr.cell? ⟨g1,o1+2 * m,none⟩=some (.int .i64 s.1):=hf.cell (hcell1 (2 * m) _ (z0f a m s hs).1) (by simp);have y1:wr.cell? ⟨g1,o1+2 * m+1,none⟩=some (.string s.2):=hf.cell (hcell1 (2 * m+1) _ (z0f a m s hs).2) (by simp);have x2:wr.cell? ⟨g2,o2+2 * m,none⟩=some (.int .i64 t.1):=hf.cell (hcell2 (2 * m) _ (z0f b m t ht).1) (by simp);have y2:wr.cell? ⟨g2,o2+2 * m+1,none⟩=some (.string t.2):=hf.cell (hcell2 (2 * m+1) _ (z0f b m t ht).2) (by simp);rw[Nat.mul_comm 2 m] at x1 x2 y1 y2;have hlt2:m < b.length:=by omega
    by_cases e:s=t
    ·have N:=hid (z34 HA.out hs (by rw[e];exact ht));subst e;have q1:(s.1==s.1)=true:=by simp
     obtain⟨q3,q4⟩:=zf7 s.2;clear hcell1 hcell2 hs ht;go_wp2;go_quiet (fail);go_wp2;go_roundg (a.length - (m+1))
     case measure=>omega
     case rel=>exact⟨m+1,rfl,rfl,by omega,N.out,hf.drewN _⟩
    ·have N:=hid (show decide (a=b)=false from decide_eq_false (z57 hs ht e));by_cases e1:s.1=t.1
     ·have e2:s.2≠t.2:=fun e2=>e (Prod.ext e1 e2);obtain⟨q3,q4⟩:=zk1 e2;have q1:(s.1==t.1)=true:=by simpa using e1
      clear hcell1 hcell2 hs ht;go_wp2;go_quiet (fail);go_wp2;go_ret;rw[N.out];exact⟨rfl,hf.drewN _⟩
     ·have q1:(s.1==t.1)=false:=by simpa using e1
      clear hcell1 hcell2 hs ht;go_wp2;go_quiet (fail);go_wp2;go_ret;rw[N.out];exact⟨rfl,hf.drewN _⟩
   ·have N:=hid (show decide (a=b)=true from decide_eq_true (z3y HA.out (by omega) HL.out));go_wp2;go_ret;rw[N.out];exact⟨rfl,hf⟩
 ·have N:=hid (show decide (a=b)=false from decide_eq_false (fun e=>hl (by rw[e])));have q1:((a.length:Int) != (b.length:Int))=true:=by simp;omega
  clear hl;go_enter Tryz.func168,Tryz.ntmps168;go_wp2;go_ret;rw[N.out];exact⟨rfl,Fr.refl _ _⟩
theorem zba(x y:Itm)(v u:Value)(w:World)(B:Nat)(hx:x.Small)(hy:y.Small)(hB:B≤w.heap.size)(h:z1m w B v x)(k:z1m w B u y):
  Calls prog 106 #[v,u] w fun e w'=>e=.returned (.bool (z40 x y))∧Fr [] w w':=by
 obtain⟨A1,c1,A2,c2,A3,c3,rfl,h1,h2,h3⟩:=h;obtain⟨D1,e1,D2,e2,D3,e3,rfl,k1,k2,k3⟩:=k;have T1:=hid (fun W (hf:Fr [] w W)=>zh6 x.list y.list A1 D1 c1 e1 B W hx.list hy.list (Nat.le_trans hB hf.size) (h1.fr hf hB (by simp)) (k1.fr hf hB (by simp)));have T2:=hid (fun W (hf:Fr [] w W)=>zgt x.pairs y.pairs A2 D2 c2 e2 B W hx.pairs hy.pairs (Nat.le_trans hB hf.size) (h2.fr hf hB (by simp)) (k2.fr hf hB (by simp)));have T3:=hid (fun W (hf:Fr [] w W)=>zgp x.scores y.scores A3 D3 c3 e3 B W hx.scores hy.scores (Nat.le_trans hB hf.size) (h3.fr hf hB (by simp)) (k3.fr hf hB (by simp)));have S0:=hid (Bx2.start w [.int .i64 x.kind,.string x.text,.slice A1 x.list.length c1,.slice A2 x.pairs.length c2,.slice A3 x.scores.length c3] [.int .i64 y.kind,.string y.text,.slice D1 y.list.length e1,.slice D2 y.pairs.length e2,.slice D3 y.scores.length e3]);have hS:z40 x y=(decide (x.kind=y.kind)&&decide (x.text=y.text)&&decide (x.list=y.list)&&decide (x.pairs=y.pairs)&&decide (x.scores=y.scores)):=rfl;rw[hS];obtain⟨d0,d1,d2,d3,d4⟩:=five S0.out.b1;obtain⟨f0,f1,f2,f3,f4⟩:=five S0.out.b2;clear hS h1 h2 h3 k1 k2 k3 hx hy;generalize decide (x.list=y.list)=bl at *;generalize decide (x.pairs=y.pairs)=bp at *;generalize decide (x.scores=y.scores)=bs at *;by_cases ek:x.kind=y.kind
 ·have qk:(x.kind==y.kind)=true:=by simpa using ek
  rw[decide_eq_true ek];clear ek;by_cases et:x.text=y.text
  ·have qt:(x.text.toList==y.text.toList)=true:=by rw[et];exact(zf7 y.text).1
   rw[decide_eq_true et];clear et;cases bl with
   | false=>
    go_enter Tryz.func106,Tryz.ntmps106;go_wp2_with fail;refine(T1.out _ S0.out.fr).mono ?_;rintro e w1 ⟨rfl,g1⟩;go_wp2;go_ret;exact⟨by simp,S0.out.fr.trans g1⟩
   | true=>
    cases bp with
    | false=>
     go_enter Tryz.func106,Tryz.ntmps106;go_wp2_with fail;refine(T1.out _ S0.out.fr).mono ?_;rintro e w1 ⟨rfl,g1⟩;have S1:=hid (S0.out.step g1);clear d0 d1 d2 d3 d4 f0 f1 f2 f3 f4 g1;obtain⟨d0,d1,d2,d3,d4⟩:=five S1.out.b1;obtain⟨f0,f1,f2,f3,f4⟩:=five S1.out.b2;go_wp2_with fail;refine(T2.out _ S1.out.fr).mono ?_;rintro e w2 ⟨rfl,g2⟩;go_wp2;go_ret;exact⟨by simp,S1.out.fr.trans g2⟩
    | true=>
     go_enter Tryz.func106,Tryz.ntmps106;go_wp2_with fail;refine(T1.out _ S0.out.fr).mono ?_;rintro e w1 ⟨rfl,g1⟩;have S1:=hid (S0.out.step g1);clear d0 d1 d2 d3 d4 f0 f1 f2 f3 f4 g1;obtain⟨d0,d1,d2,d3,d4⟩:=five S1.out.b1;obtain⟨f0,f1,f2,f3,f4⟩:=five S1.out.b2;go_wp2_with fail;refine(T2.out _ S1.out.fr).mono ?_;rintro e w2 ⟨rfl,g2⟩;have S2:=hid (S1.out.step g2);clear d0 d1 d2 d3 d4 f0 f1 f2 f3 f4 g2;obtain⟨d0,d1,d2,d3,d4⟩:=five S2.out.b1;obtain⟨f0,f1,f2,f3,f4⟩:=five S2.out.b2;go_wp2_with fail;refine(T3.out _ S2.out.fr).mono ?_;rintro e w3 ⟨rfl,g3⟩;go_wp2;go_ret;exact⟨by simp,S2.out.fr.trans g3⟩
  ·have qt:(x.text.toList==y.text.toList)=false:=(zk1 et).1;rw[decide_eq_false et];go_enter Tryz.func106,Tryz.ntmps106;go_wp2;go_ret;exact⟨by simp,S0.out.fr⟩
 ·have qk:(x.kind==y.kind)=false:=by simpa using ek
  rw[decide_eq_false ek];go_enter Tryz.func106,Tryz.ntmps106;go_wp2;go_ret;exact⟨by simp,S0.out.fr⟩
attribute [local go_sem] z0p
attribute [local go_sem] z0p
theorem z1w(n:Nat):∀(rs:List (List Value)) (i j:Nat) (cs:List Value),(∀c∈rs,c.length=n)→rs[i]? = some cs→j < n→rs.flatten[i * n+j]? = cs[j]?
 | [],i,j,cs,_,h,_=>by simp at h
 | r :: rs,0,j,cs,hl,h,hj=>by
  simp at h;subst h;rw[Nat.zero_mul,Nat.zero_add,List.flatten_cons,List.getElem?_append_left (by rw[hl r (by simp)];exact hj)]
 | r :: rs,i+1,j,cs,hl,h,hj=>by
  have hr:=hl r (by simp);have e:(i+1) * n=i * n+n:=Nat.succ_mul i n;rw[List.flatten_cons,List.getElem?_append_right (by omega),hr,show(i+1) * n+j - n=i * n+j from by omega];exact z1w n rs i j cs (fun c hc=>hl c (by simp[hc])) (by simpa using h) hj
theorem z8j(n:Nat):∀(rs:List (List Value)),(∀c∈rs,c.length=n)→rs.flatten.length=rs.length * n
 | [],_=>by simp
 | r :: rs,hl=>by
  have e:(rs.length+1) * n=rs.length * n+n:=Nat.succ_mul _ n;rw[List.flatten_cons,List.length_append,hl r (by simp),z8j n rs (fun c hc=>hl c (by simp[hc])),List.length_cons,e];omega
theorem z56(n:Nat):∀(rs:List (List Value)) (i:Nat),(∀c∈rs,c.length=n)→rs.flatten.take (i * n)=(rs.take i).flatten
 | [],i,_=>by simp
 | r :: rs,0,_=>by simp
 | r :: rs,i+1,hl=>by
  have hr:=hl r (by simp);have e:(i+1) * n=n+i * n:=by rw[Nat.succ_mul,Nat.add_comm]
  rw[List.flatten_cons,List.take_succ_cons,List.flatten_cons,e,List.take_append,hr,List.take_of_length_le (by omega),Nat.add_sub_cancel_left,z56 n rs i (fun c hc=>hl c (by simp[hc]))]
theorem z6r(n:Nat):∀(rs:List (List Value)) (i:Nat),(∀c∈rs,c.length=n)→rs.flatten.drop (i * n)=(rs.drop i).flatten
 | [],i,_=>by simp
 | r :: rs,0,_=>by simp
 | r :: rs,i+1,hl=>by
  have hr:=hl r (by simp);have e:(i+1) * n=n+i * n:=by rw[Nat.succ_mul,Nat.add_comm]
  rw[List.flatten_cons,List.drop_succ_cons,e,List.drop_append,hr,List.drop_of_length_le (by omega),Nat.add_sub_cancel_left,List.nil_append,z6r n rs i (fun c hc=>hl c (by simp[hc]))]
structure Ent where
 key:ByteArray
 item:Itm
 til:Int
abbrev yEa(x:Ent)(A:Option Addr)(a:Nat)(B:Option Addr)(b:Nat)(C:Option Addr)(c:Nat):Array Value:=#[.string x.key,.int .i64 x.item.kind,.string x.item.text,.slice A x.item.list.length a,.slice B x.item.pairs.length b,.slice C x.item.scores.length c,.int .i64 x.til]
abbrev yEl(x:Ent)(A:Option Addr)(a:Nat)(B:Option Addr)(b:Nat)(C:Option Addr)(c:Nat):List Value:=[.string x.key,.int .i64 x.item.kind,.string x.item.text,.slice A x.item.list.length a,.slice B x.item.pairs.length b,.slice C x.item.scores.length c,.int .i64 x.til]
abbrev yEza:Array Value:=#[.string ⟨#[]⟩,.int .i64 0,.string ⟨#[]⟩,.slice none 0 0,.slice none 0 0,.slice none 0 0,.int .i64 0]
abbrev yEzl:List Value:=[.string ⟨#[]⟩,.int .i64 0,.string ⟨#[]⟩,.slice none 0 0,.slice none 0 0,.slice none 0 0,.int .i64 0]
abbrev yEc(w:World)(p:Nat)(x:Ent)(A:Option Addr)(a:Nat)(B:Option Addr)(b:Nat)(C:Option Addr)(c:Nat):Prop:=w.cell? ⟨p,0,none⟩=some (.string x.key)∧w.cell? ⟨p,1,none⟩=some (.int .i64 x.item.kind)∧w.cell? ⟨p,2,none⟩=some (.string x.item.text)∧w.cell? ⟨p,3,none⟩=some (.slice A x.item.list.length a)∧w.cell? ⟨p,4,none⟩=some (.slice B x.item.pairs.length b)∧w.cell? ⟨p,5,none⟩=some (.slice C x.item.scores.length c)∧w.cell? ⟨p,6,none⟩=some (.int .i64 x.til)
def newE:Ent:=⟨⟨#[]⟩,z2l 0,0⟩
structure Ent.Small(e:Ent):Prop where
 key:e.key.size≤281474976710656
 item:e.item.Small
 til:-9223372036854775808≤e.til∧e.til≤9223372036854775807
def z5q(e:Ent)(A1:Option Addr)(c1:Nat)(A2:Option Addr)(c2:Nat)(A3:Option Addr)(c3:Nat):List Value:=
 [.string e.key,.int .i64 e.item.kind,.string e.item.text,.slice A1 e.item.list.length c1,.slice A2 e.item.pairs.length c2,.slice A3 e.item.scores.length c3,.int .i64 e.til]
def zdo(w:World)(B:Nat)(cs:List Value)(e:Ent):Prop:=
 ∃A1 c1 A2 c2 A3 c3,cs=z5q e A1 c1 A2 c2 A3 c3∧Sl w B 1 (.slice A1 e.item.list.length c1) e.item.list.length (z04 e.item.list)∧Sl w B 2 (.slice A2 e.item.pairs.length c2) e.item.pairs.length (z0t e.item.pairs)∧Sl w B 2 (.slice A3 e.item.scores.length c3) e.item.scores.length (z0h e.item.scores)
def z1n(w:World)(base:Nat)(cs:List Value)(e:Ent):Prop:=
 ∃A1 c1 A2 c2 A3 c3,cs=z5q e A1 c1 A2 c2 A3 c3∧w.ownsRow base 9 1 (.slice A1 e.item.list.length c1) e.item.list.length (z04 e.item.list)∧w.ownsRow base 108 2 (.slice A2 e.item.pairs.length c2) e.item.pairs.length (z0t e.item.pairs)∧w.ownsRow base 110 2 (.slice A3 e.item.scores.length c3) e.item.scores.length (z0h e.item.scores)
theorem zdo.len{w:World}{B:Nat}{cs:List Value}{e:Ent}(h:zdo w B cs e):cs.length=7:=by obtain⟨_,_,_,_,_,_,rfl,_⟩:=h;rfl
theorem z1n.len{w:World}{B:Nat}{cs:List Value}{e:Ent}(h:z1n w B cs e):cs.length=7:=by obtain⟨_,_,_,_,_,_,rfl,_⟩:=h;rfl
theorem z1n.c{w:World}{base:Nat}{cs:List Value}{e:Ent}(h:z1n w base cs e):zdo w w.heap.size cs e:=by
 obtain⟨A1,c1,A2,c2,A3,c3,he,h1,h2,h3⟩:=h;exact⟨A1,c1,A2,c2,A3,c3,he,z0o h1,z0o h2,z0o h3⟩
theorem zdo.fr{w w':World}{B:Nat}{S:List Nat}{cs:List Value}{e:Ent}(h:zdo w B cs e)(hf:Fr S w w')(hB:B≤w.heap.size)(hS:∀k,k∈S→B≤k):zdo w' B cs e:=by
 obtain⟨A1,c1,A2,c2,A3,c3,he,h1,h2,h3⟩:=h;exact⟨A1,c1,A2,c2,A3,c3,he,h1.fr hf hB hS,h2.fr hf hB hS,h3.fr hf hB hS⟩
theorem zdo.more{w:World}{B B':Nat}{cs:List Value}{e:Ent}(h:zdo w B cs e)(hB:B≤B'):zdo w B' cs e:=by
 obtain⟨A1,c1,A2,c2,A3,c3,he,h1,h2,h3⟩:=h;exact⟨A1,c1,A2,c2,A3,c3,he,h1.more hB,h2.more hB,h3.more hB⟩
theorem z1n.fr{w w':World}{base:Nat}{cs:List Value}{e:Ent}(h:z1n w base cs e)(hf:Fr [] w w'):z1n w' base cs e:=by
 obtain⟨A1,c1,A2,c2,A3,c3,he,h1,h2,h3⟩:=h;exact⟨A1,c1,A2,c2,A3,c3,he,z05 h1 hf (by simp),z05 h2 hf (by simp),z05 h3 hf (by simp)⟩
theorem z1n.base{w:World}{base base':Nat}{cs:List Value}{e:Ent}(h:z1n w base cs e)(hb:base'≤base):z1n w base' cs e:=by
 obtain⟨A1,c1,A2,c2,A3,c3,he,h1,h2,h3⟩:=h;exact⟨A1,c1,A2,c2,A3,c3,he,z09 h1 hb,z09 h2 hb,z09 h3 hb⟩
theorem z0i{w:World}{base base' e e' size size' n n':Nat}{v v':Value}{xs xs':List Value}(h:w.ownsRow base e size v n xs)(h':w.ownsRow base' e' size' v' n' xs')(hT:e≠e'):∀k,v.ownBlock=some k→k∉z1o v':=fun k hk hm=>by
 rcases z4j h h' hT with h1|h1
 ·rw[h1] at hk;cases hk
 ·refine h1 ?_;rw[hk];unfold z1o at hm;split at hm
  ·simp at hm;subst hm;rfl
  ·cases hm
theorem z1n.row{w w':World}{base base' T size n:Nat}{v:Value}{xs cs:List Value}{e:Ent}(h:z1n w base cs e)(ho:w.ownsRow base' T size v n xs)(hT:9≠T∧108≠T∧110≠T)(hf:Fr (z1o v) w w'):z1n w' base cs e:=by
 obtain⟨A1,c1,A2,c2,A3,c3,he,h1,h2,h3⟩:=h;exact⟨A1,c1,A2,c2,A3,c3,he,z05 h1 hf (z0i h1 ho hT.1),z05 h2 hf (z0i h2 ho hT.2.1),z05 h3 hf (z0i h3 ho hT.2.2)⟩
theorem zdo.item{w:World}{B:Nat}{e:Ent}{A1 A2 A3:Option Addr}{c1 c2 c3:Nat}(h:zdo w B (z5q e A1 c1 A2 c2 A3 c3) e):
  z1m w B (.agg #[.int .i64 e.item.kind,.string e.item.text,.slice A1 e.item.list.length c1,.slice A2 e.item.pairs.length c2,.slice A3 e.item.scores.length c3]) e.item:=by
 obtain⟨B1,d1,B2,d2,B3,d3,he,h1,h2,h3⟩:=h;simp only[z5q,List.cons.injEq,Value.slice.injEq] at he;obtain⟨-,-,-,⟨rfl,-,rfl⟩,⟨rfl,-,rfl⟩,⟨rfl,-,rfl⟩,-⟩:=he;exact⟨_,_,_,_,_,_,rfl,h1,h2,h3⟩
theorem z1n.item{w:World}{base:Nat}{e:Ent}{A1 A2 A3:Option Addr}{c1 c2 c3:Nat}(h:z1n w base (z5q e A1 c1 A2 c2 A3 c3) e):
  z0l w base (.agg #[.int .i64 e.item.kind,.string e.item.text,.slice A1 e.item.list.length c1,.slice A2 e.item.pairs.length c2,.slice A3 e.item.scores.length c3]) e.item:=by
 obtain⟨B1,d1,B2,d2,B3,d3,he,h1,h2,h3⟩:=h;simp only[z5q,List.cons.injEq,Value.slice.injEq] at he;obtain⟨-,-,-,⟨rfl,-,rfl⟩,⟨rfl,-,rfl⟩,⟨rfl,-,rfl⟩,-⟩:=he;exact⟨_,_,_,rfl,h1,h2,h3⟩
def z1g(w:World)(B:Nat)(v:Value)(l:List Ent):Prop:=
 ∃A c,∃rs:List (List Value),v=.slice A l.length c∧rs.length=l.length∧(∀(i:Nat) (e:Ent),l[i]? = some e→∃cs:List Value,rs[i]? = some cs∧zdo w B cs e)∧Sl w B 7 v l.length rs.flatten
def z1a(w:World)(base:Nat)(v:Value)(l:List Ent):Prop:=
 ∃rs:List (List Value),rs.length=l.length∧(∀(i:Nat) (e:Ent),l[i]? = some e→∃cs:List Value,rs[i]? = some cs∧z1n w base cs e)∧w.ownsRow base 74 7 v l.length rs.flatten
theorem z1g.form{w:World}{B:Nat}{v:Value}{l:List Ent}(h:z1g w B v l):∃A c,v=.slice A l.length c:=by
 obtain⟨A,c,rs,rfl,_⟩:=h;exact⟨A,c,rfl⟩
theorem z1a.form{w:World}{B:Nat}{v:Value}{l:List Ent}(h:z1a w B v l):∃A c,v=.slice A l.length c:=by
 obtain⟨rs,_,_,ho⟩:=h;obtain⟨A,c,rfl,-⟩:=z02 ho;exact⟨A,c,rfl⟩
theorem z1a.v{w:World}{base:Nat}{v:Value}{l:List Ent}(h:z1a w base v l):z1g w w.heap.size v l:=by
 obtain⟨rs,h1,h2,h3⟩:=h;obtain⟨A,c,rfl,-⟩:=z02 h3
 exact⟨A,c,rs,rfl,h1,fun i e he=>by
  obtain⟨cs,h4,h5⟩:=h2 i e he;exact⟨cs,h4,h5.c⟩,z0o h3⟩
theorem z1g.fr{w w':World}{B:Nat}{S:List Nat}{v:Value}{l:List Ent}(h:z1g w B v l)(hf:Fr S w w')(hB:B≤w.heap.size)(hS:∀k,k∈S→B≤k):z1g w' B v l:=by
 obtain⟨A,c,rs,rfl,hl,hi,hs⟩:=h
 exact⟨A,c,rs,rfl,hl,fun i x hx=>by
  obtain⟨cs,h1,h2⟩:=hi i x hx;exact⟨cs,h1,h2.fr hf hB hS⟩,hs.fr hf hB hS⟩
theorem z1g.more{w:World}{B B':Nat}{v:Value}{l:List Ent}(h:z1g w B v l)(hB:B≤B'):z1g w B' v l:=by
 obtain⟨A,c,rs,rfl,hl,hi,hs⟩:=h
 exact⟨A,c,rs,rfl,hl,fun i x hx=>by
  obtain⟨cs,h1,h2⟩:=hi i x hx;exact⟨cs,h1,h2.more hB⟩,hs.more hB⟩
theorem z1a.fr{w w':World}{base:Nat}{v:Value}{l:List Ent}(h:z1a w base v l)(hf:Fr [] w w'):z1a w' base v l:=by
 obtain⟨rs,h1,h2,h3⟩:=h
 exact⟨rs,h1,fun i e he=>by
  obtain⟨cs,h4,h5⟩:=h2 i e he;exact⟨cs,h4,h5.fr hf⟩,z05 h3 hf (by simp)⟩
theorem z1a.base{w:World}{base base':Nat}{v:Value}{l:List Ent}(h:z1a w base v l)(hb:base'≤base):z1a w base' v l:=by
 obtain⟨rs,h1,h2,h3⟩:=h
 exact⟨rs,h1,fun i e he=>by
  obtain⟨cs,h4,h5⟩:=h2 i e he;exact⟨cs,h4,h5.base hb⟩,z09 h3 hb⟩
theorem z1g.nil(w:World)(B:Nat):z1g w B (.slice none 0 0) []:=⟨none,0,[],rfl,rfl,fun i x h=>by simp at h,Sl.nil _ _ _⟩
theorem z1a.nil(w:World)(base:Nat):z1a w base (.slice none 0 0) []:=⟨[],rfl,fun i x h=>by simp at h,World.ownsRow_nil _ _ _ _⟩
theorem zc4{P:List Value→Ent→Prop}{l:List Ent}{rs:List (List Value)}(hl:rs.length=l.length)(hP:∀cs e,P cs e→cs.length=7)(h:∀(i:Nat) (e:Ent),l[i]? = some e→∃cs:List Value,rs[i]? = some cs∧P cs e):∀c∈rs,c.length=7:=fun c hc=>by
 obtain⟨j,hj,rfl⟩:=List.getElem_of_mem hc;obtain⟨d,hd,h5⟩:=h j _ (List.getElem?_eq_getElem (show j < l.length by omega));rw[List.getElem?_eq_getElem hj] at hd;cases hd;exact hP _ _ h5
structure At7(w:World)(B b o:Nat)(e:Ent)(A1 A2 A3:Option Addr)(c1 c2 c3:Nat):Prop where
 k0:w.cell? ⟨b,o,none⟩=some (.string e.key)
 k1:w.cell? ⟨b,o+1,none⟩=some (.int .i64 e.item.kind)
 k2:w.cell? ⟨b,o+2,none⟩=some (.string e.item.text)
 k3:w.cell? ⟨b,o+3,none⟩=some (.slice A1 e.item.list.length c1)
 k4:w.cell? ⟨b,o+4,none⟩=some (.slice A2 e.item.pairs.length c2)
 k5:w.cell? ⟨b,o+5,none⟩=some (.slice A3 e.item.scores.length c3)
 k6:w.cell? ⟨b,o+6,none⟩=some (.int .i64 e.til)
 ent:zdo w B (z5q e A1 c1 A2 c2 A3 c3) e
theorem At7.fr{w w':World}{B b o:Nat}{e:Ent}{A1 A2 A3:Option Addr}{c1 c2 c3:Nat}{S:List Nat}(h:At7 w B b o e A1 A2 A3 c1 c2 c3)(hf:Fr S w w')(hb:b < B)(hB:B≤w.heap.size)(hS:∀k,k∈S→B≤k):At7 w' B b o e A1 A2 A3 c1 c2 c3:=by
 have hn:b∉S:=fun hm=>by have:=hS b hm;omega
 exact⟨hf.cell h.k0 hn,hf.cell h.k1 hn,hf.cell h.k2 hn,hf.cell h.k3 hn,hf.cell h.k4 hn,hf.cell h.k5 hn,hf.cell h.k6 hn,h.ent.fr hf hB hS⟩
theorem z1g.at_{w:World}{B:Nat}{A:Option Addr}{c:Nat}{l:List Ent}(h:z1g w B (.slice A l.length c) l)(hn:0 < l.length):
  ∃b off,A=some ⟨b,off,none⟩∧b < B∧l.length≤c∧c≤maxLen∧∀(i:Nat) (e:Ent),l[i]? = some e→∃A1 A2 A3 c1 c2 c3,At7 w B b (off+i * 7) e A1 A2 A3 c1 c2 c3:=by
 obtain⟨A',c',rs,hv,hl,hi,hs⟩:=h;cases hv;obtain⟨b,off,rfl,hb,hc,hm,hcell⟩:=hs.at_ hn;refine⟨b,off,rfl,hb,hc,hm,fun i e he=>?_⟩;obtain⟨cs,hcs,hE⟩:=hi i e he;have all7:=zc4 hl (fun cs e h=>zdo.len h) hi;obtain⟨A1,c1,A2,c2,A3,c3,rfl,s1,s2,s3⟩:=hE
 have g:∀j u,j < 7→(z5q e A1 c1 A2 c2 A3 c3)[j]? = some u→w.cell? ⟨b,off+(i * 7+j),none⟩=some u:=fun j u hj hu=>
  hcell _ _ (by rw[z1w 7 rs i j _ all7 hcs hj];exact hu)
 exact⟨A1,A2,A3,c1,c2,c3,g 0 _ (by decide) rfl,by rw[Nat.add_assoc];exact g 1 _ (by decide) rfl,by rw[Nat.add_assoc];exact g 2 _ (by decide) rfl,by rw[Nat.add_assoc];exact g 3 _ (by decide) rfl,by rw[Nat.add_assoc];exact g 4 _ (by decide) rfl,by rw[Nat.add_assoc];exact g 5 _ (by decide) rfl,by rw[Nat.add_assoc];exact g 6 _ (by decide) rfl,⟨A1,c1,A2,c2,A3,c3,rfl,s1,s2,s3⟩⟩
def z3h(n:Int):Bool:=decide (0≤n)&&decide (n≤1000000)
def z3n(til now:Int):Bool:=decide (til≠0)&&decide (til≤now)
def z1t:Option ByteArray→ByteArray→Bool
 | none,_=>false
 | some k,s=>!ltS k s
def z8t(p:Option ByteArray)(e:Ent):Int:=
 if 60 < e.key.size then 2 else if z08 e.item≠0 then z08 e.item else if z3h e.til=false then 3 else if z1t p e.key=true then 4 else 0
def goSp:Option ByteArray→List Ent→Int
 | _,[]=>0
 | p,e :: l=>if z8t p e≠0 then z8t p e else goSp (some e.key) l
def zf1(l:List Ent):Int:=if 16 < l.length then 2 else goSp none l
structure ze8(l:List Ent):Prop where
 le:l.length≤16
 keys:∀e∈l,e.key.size≤60
 items:∀e∈l,z08 e.item=0
 times:∀e∈l,0≤e.til∧e.til≤1000000
 rise:rises (ltK Ent.key) l=true
theorem zfq{p:Option ByteArray}{e:Ent}(h:z8t p e=0):e.key.size≤60∧z08 e.item=0∧(0≤e.til∧e.til≤1000000)∧z1t p e.key=false:=by
 unfold z8t at h;split at h
 ·cases h
 ·rename_i h1;split at h
  ·rename_i h2;exact absurd h h2
  ·rename_i h2;split at h
   ·cases h
   ·rename_i h3;split at h
    ·cases h
    ·rename_i h4;refine⟨by omega,by simpa using h2,?_,by simpa using h4⟩;have:z3h e.til=true:=by simpa using h3
     unfold z3h at this;simpa using this
theorem zce:∀ {l:List Ent} {p:Option ByteArray},goSp p l=0→(∀e∈l,e.key.size≤60∧z08 e.item=0∧(0≤e.til∧e.til≤1000000))∧rises ltS (l.map (·.key))=true∧(∀e,l[0]? = some e→z1t p e.key=false)
 | [],p,_=>⟨(fun e he=>by cases he),rfl,(fun e he=>by simp at he)⟩
 | e :: l,p,h=>by
  unfold goSp at h;by_cases hc:z8t p e=0
  ·rw[if_neg (by simpa using hc)] at h;obtain⟨h1,h2,h3⟩:=zce h;obtain⟨k1,k2,k3,k4⟩:=zfq hc;refine⟨fun x hx=>?_,?_,fun x hx=>by simp at hx;subst hx;exact k4⟩
   ·rcases List.mem_cons.1 hx with rfl|hx
    ·exact⟨k1,k2,k3⟩
    ·exact h1 x hx
   ·cases l with
    | nil=>rfl
    | cons y l=>
     have:=h3 y rfl;unfold z1t at this;rw[List.map_cons,List.map_cons];rw[List.map_cons] at h2;unfold rises;rw[Bool.and_eq_true];exact⟨by simpa using this,h2⟩
  ·rw[if_pos hc] at h;exact absurd h hc
theorem spOk{l:List Ent}(h:zf1 l=0):ze8 l:=by
 unfold zf1 at h;split at h
 ·cases h
 ·rename_i hl;obtain⟨h1,h2,_⟩:=zce h;refine⟨by omega,fun e he=>(h1 e he).1,fun e he=>(h1 e he).2.1,fun e he=>(h1 e he).2.2,?_⟩;refine z5x ?_;have:=z5z (lt:=ltS) (fun a b c h1 h2=>decide_eq_true (z3u (of_decide_eq_true h1) (of_decide_eq_true h2))) h2;rw[List.pairwise_map] at this;exact this
structure BX(w:World)(cs:List Value)(wr:World):Prop where
 b:Whole wr w.heap.size 46 cs
 f:Fr [] w wr
theorem BX.new(w:World)(a b c d e:Value):BX w [a,b,c,d,e] (w.alloc (.cells #[a,b,c,d,e] 46)):=⟨Whole.new w _ _,(Fr.refl [] w).alloc _⟩
theorem BX.go{w wr w1:World}{cs:List Value}(h:BX w cs wr)(k:Fr [] wr w1):BX w cs w1:=⟨h.b.fr k (by simp),h.f.trans k⟩
structure BO(w:World)(n:Nat)(cs:List Value)(wr:World):Prop where
 b:Whole wr w.heap.size 46 cs
 o:Whole wr (w.heap.size+n) 46 [.int .i64 0,.string ⟨#[]⟩,.slice none 0 0,.slice none 0 0,.slice none 0 0]
 f:Fr [] w wr
theorem BO.new(w:World)(a b c d e:Value):BO w 1 [a,b,c,d,e] ((w.alloc (.cells #[a,b,c,d,e] 46)).alloc (.cells #[.int .i64 0,.string ⟨#[]⟩,.slice none 0 0,.slice none 0 0,.slice none 0 0] 46)):=
 ⟨(Whole.new w _ _).alloc _,by
  have:=Whole.new (w.alloc (.cells #[a,b,c,d,e] 46)) 46 [.int .i64 0,.string ⟨#[]⟩,.slice none 0 0,.slice none 0 0,.slice none 0 0];simpa using this,((Fr.refl [] w).alloc _).alloc _⟩
theorem BO.go{w wr w1:World}{n:Nat}{cs:List Value}(h:BO w n cs wr)(k:Fr [] wr w1):BO w n cs w1:=⟨h.b.fr k (by simp),h.o.fr k (by simp),h.f.trans k⟩
theorem BO.step{w wr w1:World}{n:Nat}{cs:List Value}{S:List Nat}(h:BO w n cs wr)(k:Fr S wr w1)(hS:∀g,g∈S→w.heap.size+n < g):BO w n cs w1:=
 ⟨h.b.fr k (fun hm=>by have:=hS _ hm;omega),h.o.fr k (fun hm=>by have:=hS _ hm;omega),h.f.step k (fun g hg=>.inr (by have:=hS g hg;omega))⟩
theorem BO.alloc{w wr:World}{n:Nat}{cs:List Value}(h:BO w n cs wr)(o:Obj):BO w n cs (wr.alloc o):=h.go ((Fr.refl [] wr).alloc o)
theorem BO.end5{w wr:World}{n:Nat}{cs:List Value}(h:BO w n cs wr)(a b c d e:Value):Fr [] w (set5 wr (w.heap.size+n) a b c d e):=z3o h.f (by omega) _ _ _ _ _
theorem BO.lt{w wr:World}{n:Nat}{cs:List Value}(h:BO w n cs wr):w.heap.size+n < wr.heap.size:=h.o.lt
theorem z0l.form{w:World}{base:Nat}{v:Value}{x:Itm}(h:z0l w base v x):∃A1 c1 A2 c2 A3 c3,v=.agg #[.int .i64 x.kind,.string x.text,.slice A1 x.list.length c1,.slice A2 x.pairs.length c2,.slice A3 x.scores.length c3]:=by
 obtain⟨v1,v2,v3,rfl,o1,o2,o3⟩:=h;obtain⟨A1,c1,rfl⟩:=z3m (z0o o1);obtain⟨A2,c2,rfl⟩:=z3m (z0o o2);obtain⟨A3,c3,rfl⟩:=z3m (z0o o3);exact⟨A1,c1,A2,c2,A3,c3,rfl⟩
theorem z1m.form{w:World}{B:Nat}{v:Value}{x:Itm}(h:z1m w B v x):∃A1 c1 A2 c2 A3 c3,v=.agg #[.int .i64 x.kind,.string x.text,.slice A1 x.list.length c1,.slice A2 x.pairs.length c2,.slice A3 x.scores.length c3]:=by
 obtain⟨A1,c1,A2,c2,A3,c3,rfl,_⟩:=h;exact⟨A1,c1,A2,c2,A3,c3,rfl⟩
theorem z03{w:World}{base e size n:Nat}{v:Value}{xs:List Value}(h:w.ownsRow base e size v n xs){p:Addr}(hp:p.block < base)(u:Value):(w.setCell p u).ownsRow base e size v n xs:=
 z0c u h (fun he=>by have:=(h.lt _ he).1;omega)
theorem z35{w:World}{base e size n o:Nat}{v:Value}{xs:List Value}(h:w.ownsRow base e size v n xs)(ho:o < base)(a b c d f:Value):(set5 w o a b c d f).ownsRow base e size v n xs:=
 z03 (p:=⟨o,4,none⟩) (z03 (p:=⟨o,3,none⟩) (z03 (p:=⟨o,2,none⟩) (z03 (p:=⟨o,1,none⟩) (z03 (p:=⟨o,0,none⟩) h ho _) ho _) ho _) ho _) ho _
theorem z39{w:World}{base o:Nat}{v:Value}{x:Itm}(h:z0l w base v x)(ho:o < base)(a b c d e:Value):z0l (set5 w o a b c d e) base v x:=by
 obtain⟨v1,v2,v3,rfl,o1,o2,o3⟩:=h;exact⟨_,_,_,rfl,z35 o1 ho _ _ _ _ _,z35 o2 ho _ _ _ _ _,z35 o3 ho _ _ _ _ _⟩
theorem z0l.go{w w':World}{base:Nat}{v:Value}{x:Itm}(h:z0l w base v x)(hf:Fr [] w w'):z0l w' base v x:=by
 obtain⟨v1,v2,v3,rfl,o1,o2,o3⟩:=h;exact⟨_,_,_,rfl,z05 o1 hf (by simp),z05 o2 hf (by simp),z05 o3 hf (by simp)⟩
theorem z0l.less{w:World}{base base':Nat}{v:Value}{x:Itm}(h:z0l w base v x)(hb:base'≤base):z0l w base' v x:=by
 obtain⟨v1,v2,v3,rfl,o1,o2,o3⟩:=h;exact⟨_,_,_,rfl,z09 o1 hb,z09 o2 hb,z09 o3 hb⟩
section
variable {w0 wr w1:World} {bl:List (Nat×List Value)} {its:List (Value×Itm)} {rs:List (Nat×Value×Nat×List Value)}
theorem zgu{w:World}{g:Nat}{a b c d e a' b' c' d' e':Value}(h:Whole w g 46 [a,b,c,d,e]):Whole (set5 w g a' b' c' d' e') g 46 [a',b',c',d',e']:=
 ((((h.set_ 0 a').set_ 1 b').set_ 2 c').set_ 3 d').set_ 4 e'
end
def zmp(k code:Int)(y:Itm)(w:World)(e:Ending)(w':World):Prop:=∃u,e=.returned (.tuple #[u,.int .i64 k,.int .i64 code])∧z0l w' w.heap.size u y∧Fr [] w w'
def OwnI(base:Nat)(x:Itm)(w:World)(e:Ending)(w':World):Prop:=∃u,e=.returned u∧z0l w' base u x∧Fr [] w w'
end Go.Proofs.YtmkhmejempcimaaGreatDoor
