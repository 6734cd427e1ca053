/- Contracts that the proof of E3 uses. No condition beyond those in each theorem. -/
import Derived.Test.YtamgdmiopinidaaGreatDoorSlE36
set_option linter.unusedVariables false
set_option linter.unusedSimpArgs false
set_option maxHeartbeats 8000000
set_option maxRecDepth 100000
namespace Go.Proofs.YtamgdmiopinidaaGreatDoor
open Lib (hid)
open Tryz (prog)
open Go.RowKit
def z5m(x:Itm):Int:=if x.kind=0 then 0 else (z3v x.text.data.toList).getD 0
def z3r(x:Itm)(n:Int):Int:=if z02 1 x≠0 then z02 1 x else if x.kind≠0∧z3v x.text.data.toList=none then 1 else if z0m n=true∧z0m (z5m x+n)=true then 0 else 3
def adY(x:Itm)(n:Int):Itm:=if z3r x n=0 then z27 ⟨(Lib.itoa (z5m x+n)).toArray⟩ else z2r 0
def adN(x:Itm)(n:Int):Int:=if z3r x n=0 then z5m x+n else 0
theorem zxa{x:Itm}{n c:Int}(h:z3r x n=c)(hc:c≠0):adY x n=z2r 0∧adN x n=0:=by
 have h0:z3r x n≠0:=by rw[h];exact hc
 exact⟨by unfold adY;rw[if_neg h0],by unfold adN;rw[if_neg h0]⟩
theorem zxp{x:Itm}{n s:Int}(h:z3r x n=0)(hs:z5m x+n=s):adY x n=z27 ⟨(Lib.itoa s).toArray⟩∧adN x n=s:=by
 rw[←hs]
 exact⟨by unfold adY;rw[if_pos h],by unfold adN;rw[if_pos h]⟩
theorem z5p{n:Int}(h:z0m n=true):-999999999≤n∧n≤999999999:=by
 unfold z0m at h
 simpa using h
theorem zjs{l:List UInt8}{v:Int}(h:z3v l=some v):-999999999≤v∧v≤999999999:=z5p (z6t.1 h).1
theorem z4j{n:Int}{b:Bool}(h:z0m n=b)(w:World):Calls prog 103 #[.int .i64 n] w fun e w'=>e=.returned (.bool b)∧w=w':=
 (z6h n w).mono fun e w' ⟨he,hw⟩=>⟨by rw[he,h],hw.symm⟩
theorem zsd(x:Itm)(v:Value)(n:Int)(w:World)(B:Nat)(hs:x.Small)(hB:B≤w.heap.size)(h:z0q w B v x)(hn:-9223372036854775808≤n∧n≤9223372036854775807)(hw:Vars w) :
  Calls prog 173 #[v,.int .i64 n] w (z4k (adN x n) (z3r x n) (adY x n) w):=by
 have RD:=hid (fun W (hf:Fr [] w W)=>z86 x v W B hs (Nat.le_trans hB hf.size) (h.fr hf hB (by simp)))
 obtain⟨A1,c1,A2,c2,A3,c3,rfl,h1,h2,h3⟩:=h
 have D0:=hid (BO.new w (.int .i64 x.kind) (.string x.text) (.slice A1 x.list.length c1) (.slice A2 x.pairs.length c2) (.slice A3 x.scores.length c3))
 obtain⟨d0,d1,d2,d3,d4⟩:=five D0.out.b
 have OK:=hid (fun(h:z02 1 x=0)=>(z18 h).text)
 have hz:=hs.text
 clear h1 h2 h3 hs
 have TI:=hid (fun W (hf:Fr [] w W)=>z8w x.text W (hw.fr hf) hz)
 have IA:=hid (fun W (hf:Fr [] w W) s hs=>zks s W (hw.fr hf) hs)
 clear hw
 have AK:=hid (fun(h:z02 1 x=0)=>(z18 h).kind)
 have EC:=hid (show z3r x n=if z02 1 x≠0 then z02 1 x else if x.kind≠0∧z3v x.text.data.toList=none then 1 else if z0m n=true∧z0m (z5m x+n)=true then 0 else 3 from rfl)
 have EW:=hid (show z5m x=if x.kind=0 then 0 else (z3v x.text.data.toList).getD 0 from rfl)
 have YES:=hid (fun s=>@zxp x n s)
 have NO:=hid (fun c=>@zxa x n c)
 clear OK
 by_cases ha:z02 1 x=0
 ·rw[ha] at RD
  have EC2:=hid (EC.out.trans (if_neg (by simpa using ha)))
  have hk:=AK.out ha
  clear EC AK ha
  by_cases h0:x.kind=0
  ·have EW2:=hid (EW.out.trans (if_pos h0))
   have EC3:=hid (EC2.out.trans (if_neg (fun h=>h.1 h0)))
   clear EW EC2 TI hk
   have k0:(x.kind != 0)=false:=by simpa using h0
   have k1:(x.kind==1)=false:=by rw[h0];rfl
   clear h0
   by_cases hi:z0m n=true
   ·have e0:z5m x+n=n:=by rw[EW2.out];omega
    have E:=EC3.out.trans (if_pos ⟨hi,by rw[e0];exact hi⟩)
    obtain⟨e1,e2⟩:=YES.out n E e0
    rw[e1,e2,E]
    obtain⟨b1,b2⟩:=z5p hi
    have hj:=hi
    have IN:=hid (fun W=>z4j (show z0m n=true from hi) W)
    have IS:=hid (fun W=>z4j (show z0m (n)=true from hj) W)
    have IA2:=hid (fun W hf=>IA.out W hf (n) (by omega))
    clear IA
    have IA:=IA2
    clear IA2
    generalize (⟨(Lib.itoa (n)).toArray⟩:ByteArray)=y at *
    clear e0 E e1 e2 EC3 EW2 YES NO hi hj
    go_enter Tryz.func173,Tryz.ntmps173
    go_wp2_with fail
    refine(RD.out _ D0.out.f).mono ?_
    rintro e w1 ⟨rfl,f1⟩
    have D1:=hid (D0.out.go f1)
    clear d0 d1 d2 d3 d4
    obtain⟨d0,d1,d2,d3,d4⟩:=five D1.out.b
    go_wp2_with fail
    refine(IN.out _).mono ?_
    rintro e w9 ⟨rfl,rfl⟩
    go_wp2_with fail
    refine(IS.out _).mono ?_
    rintro e w9 ⟨rfl,rfl⟩
    go_wp2_with fail
    refine(IA.out _ D1.out.f).mono ?_
    rintro e w2 ⟨rfl,f2⟩
    have D2:=hid (D1.out.go f2)
    clear d0 d1 d2 d3 d4
    obtain⟨d0,d1,d2,d3,d4⟩:=five D2.out.b
    go_wp2_with fail
    refine(zfl y _).mono ?_
    rintro e w3 ⟨rfl,f3⟩
    have D3:=hid (D2.out.go f3)
    clear d0 d1 d2 d3 d4
    obtain⟨d0,d1,d2,d3,d4⟩:=five D3.out.b
    obtain⟨a0,a1,a2,a3,a4⟩:=five D3.out.o
    obtain⟨b0,b2,b3,b4,b5⟩:=z10 D3.out.o
    go_wp2
    refine bodyPost_ret (v:=.tuple #[.agg #[.int .i64 1,.string y,.slice none 0 0,.slice none 0 0,.slice none 0 0],.int .i64 (n),.int .i64 0]) (by simp[results,Tryz.results173,go_sem,a0,a1,a2,a3,a4]) rfl ?_
    exact⟨_,rfl,z0l.text _ _ _,D3.out.end5 _ _ _ _ _⟩
   ·have E:=EC3.out.trans (if_neg (fun h=>hi h.1))
    obtain⟨e1,e2⟩:=NO.out 3 E (by decide)
    rw[e1,e2,E]
    have IN:=hid (fun W=>z4j (show z0m n=false from by simpa using hi) W)
    clear E e1 e2 EC3 EW2 YES NO hi IA
    go_enter Tryz.func173,Tryz.ntmps173
    go_wp2_with fail
    refine(RD.out _ D0.out.f).mono ?_
    rintro e w1 ⟨rfl,f1⟩
    have D1:=hid (D0.out.go f1)
    clear d0 d1 d2 d3 d4
    obtain⟨d0,d1,d2,d3,d4⟩:=five D1.out.b
    go_wp2_with fail
    refine(IN.out _).mono ?_
    rintro e w9 ⟨rfl,rfl⟩
    obtain⟨a0,a1,a2,a3,a4⟩:=five D1.out.o
    obtain⟨b0,b2,b3,b4,b5⟩:=z10 D1.out.o
    go_wp2
    refine bodyPost_ret (v:=.tuple #[.agg #[.int .i64 0,.string ⟨#[]⟩,.slice none 0 0,.slice none 0 0,.slice none 0 0],.int .i64 0,.int .i64 3]) (by simp[results,Tryz.results173,go_sem,a0,a1,a2,a3,a4]) rfl ?_
    exact⟨_,rfl,z0l.nothing _ _,D1.out.end5 _ _ _ _ _⟩
  ·obtain hk1:x.kind=1:=by omega
   have EW2:=hid (EW.out.trans (if_neg h0))
   clear EW
   have k0:(x.kind != 0)=true:=by simpa using h0
   have k1:(x.kind==1)=true:=by rw[hk1];rfl
   cases hL:z3v x.text.data.toList with
   | none=>
    have E:=EC2.out.trans (if_pos ⟨h0,hL⟩)
    obtain⟨e1,e2⟩:=NO.out 1 E (by decide)
    rw[e1,e2,E]
    have TN:=hid (fun W hf=>(TI.out W hf).mono (fun e w' ⟨m,he,hm,hv,hr⟩=>(show ∃m:Int,e=Ending.returned (.tuple #[.int .i64 m,.bool false])∧Fr [] W w' from⟨m,by rw[he,hL];rfl,hr⟩)))
    clear TI IA
    clear E e1 e2 EC2 EW2 YES NO hL h0 hk hk1
    go_enter Tryz.func173,Tryz.ntmps173
    go_wp2_with fail
    refine(RD.out _ D0.out.f).mono ?_
    rintro e w1 ⟨rfl,f1⟩
    have D1:=hid (D0.out.go f1)
    clear d0 d1 d2 d3 d4
    obtain⟨d0,d1,d2,d3,d4⟩:=five D1.out.b
    go_wp2_with fail
    refine(TN.out _ D1.out.f).mono ?_
    rintro e w2 ⟨m,rfl,f2⟩
    have D2:=hid (D1.out.go f2)
    clear d0 d1 d2 d3 d4
    obtain⟨d0,d1,d2,d3,d4⟩:=five D2.out.b
    obtain⟨a0,a1,a2,a3,a4⟩:=five D2.out.o
    obtain⟨b0,b2,b3,b4,b5⟩:=z10 D2.out.o
    go_wp2
    refine bodyPost_ret (v:=.tuple #[.agg #[.int .i64 0,.string ⟨#[]⟩,.slice none 0 0,.slice none 0 0,.slice none 0 0],.int .i64 0,.int .i64 1]) (by simp[results,Tryz.results173,go_sem,a0,a1,a2,a3,a4]) rfl ?_
    exact⟨_,rfl,z0l.nothing _ _,D2.out.end5 _ _ _ _ _⟩
   | some u=>
    have EC3:=hid (EC2.out.trans (if_neg (fun h=>by rw[hL] at h;cases h.2)))
    obtain⟨u1,u2⟩:=zjs hL
    have e0:z5m x+n=u+n:=by rw[EW2.out,hL];rfl
    have TN:=hid (fun W hf=>(TI.out W hf).mono (fun e w' ⟨m,he,hm,hv,hr⟩=>(show e=Ending.returned (.tuple #[.int .i64 u,.bool true])∧Fr [] W w' from⟨by rw[he,hL,hv u hL];rfl,hr⟩)))
    clear TI
    clear EC2 hL h0 hk hk1
    by_cases hi:z0m n=true
    ·obtain⟨b1,b2⟩:=z5p hi
     by_cases hj:z0m (u+n)=true
     ·have E:=EC3.out.trans (if_pos ⟨hi,by rw[e0];exact hj⟩)
      obtain⟨e1,e2⟩:=YES.out (u+n) E e0
      rw[e1,e2,E]
      obtain⟨b3,b4⟩:=z5p hj
      have IN:=hid (fun W=>z4j (show z0m n=true from hi) W)
      have IS:=hid (fun W=>z4j (show z0m (u+n)=true from hj) W)
      have IA2:=hid (fun W hf=>IA.out W hf (u+n) (by omega))
      clear IA
      have IA:=IA2
      clear IA2
      generalize (⟨(Lib.itoa (u+n)).toArray⟩:ByteArray)=y at *
      clear e0 E e1 e2 EC3 EW2 YES NO hi hj
      go_enter Tryz.func173,Tryz.ntmps173
      go_wp2_with fail
      refine(RD.out _ D0.out.f).mono ?_
      rintro e w1 ⟨rfl,f1⟩
      have D1:=hid (D0.out.go f1)
      clear d0 d1 d2 d3 d4
      obtain⟨d0,d1,d2,d3,d4⟩:=five D1.out.b
      go_wp2_with fail
      refine(TN.out _ D1.out.f).mono ?_
      rintro e w2 ⟨rfl,f2⟩
      have D2:=hid (D1.out.go f2)
      clear d0 d1 d2 d3 d4
      obtain⟨d0,d1,d2,d3,d4⟩:=five D2.out.b
      go_wp2_with fail
      refine(IN.out _).mono ?_
      rintro e w9 ⟨rfl,rfl⟩
      go_wp2_with fail
      refine(IS.out _).mono ?_
      rintro e w9 ⟨rfl,rfl⟩
      go_wp2_with fail
      refine(IA.out _ D2.out.f).mono ?_
      rintro e w3 ⟨rfl,f3⟩
      have D3:=hid (D2.out.go f3)
      clear d0 d1 d2 d3 d4
      obtain⟨d0,d1,d2,d3,d4⟩:=five D3.out.b
      go_wp2_with fail
      refine(zfl y _).mono ?_
      rintro e w4 ⟨rfl,f4⟩
      have D4:=hid (D3.out.go f4)
      clear d0 d1 d2 d3 d4
      obtain⟨d0,d1,d2,d3,d4⟩:=five D4.out.b
      obtain⟨a0,a1,a2,a3,a4⟩:=five D4.out.o
      obtain⟨b0,b2,b3,b4,b5⟩:=z10 D4.out.o
      go_wp2
      refine bodyPost_ret (v:=.tuple #[.agg #[.int .i64 1,.string y,.slice none 0 0,.slice none 0 0,.slice none 0 0],.int .i64 (u+n),.int .i64 0]) (by simp[results,Tryz.results173,go_sem,a0,a1,a2,a3,a4]) rfl ?_
      exact⟨_,rfl,z0l.text _ _ _,D4.out.end5 _ _ _ _ _⟩
     ·have E:=EC3.out.trans (if_neg (fun h=>hj (by rw[←e0];exact h.2)))
      obtain⟨e1,e2⟩:=NO.out 3 E (by decide)
      rw[e1,e2,E]
      have IN:=hid (fun W=>z4j (show z0m n=true from hi) W)
      have IS:=hid (fun W=>z4j (show z0m (u+n)=false from by simpa using hj) W)
      clear e0 E e1 e2 EC3 EW2 YES NO hi hj IA
      go_enter Tryz.func173,Tryz.ntmps173
      go_wp2_with fail
      refine(RD.out _ D0.out.f).mono ?_
      rintro e w1 ⟨rfl,f1⟩
      have D1:=hid (D0.out.go f1)
      clear d0 d1 d2 d3 d4
      obtain⟨d0,d1,d2,d3,d4⟩:=five D1.out.b
      go_wp2_with fail
      refine(TN.out _ D1.out.f).mono ?_
      rintro e w2 ⟨rfl,f2⟩
      have D2:=hid (D1.out.go f2)
      clear d0 d1 d2 d3 d4
      obtain⟨d0,d1,d2,d3,d4⟩:=five D2.out.b
      go_wp2_with fail
      refine(IN.out _).mono ?_
      rintro e w9 ⟨rfl,rfl⟩
      go_wp2_with fail
      refine(IS.out _).mono ?_
      rintro e w9 ⟨rfl,rfl⟩
      obtain⟨a0,a1,a2,a3,a4⟩:=five D2.out.o
      obtain⟨b0,b2,b3,b4,b5⟩:=z10 D2.out.o
      go_wp2
      refine bodyPost_ret (v:=.tuple #[.agg #[.int .i64 0,.string ⟨#[]⟩,.slice none 0 0,.slice none 0 0,.slice none 0 0],.int .i64 0,.int .i64 3]) (by simp[results,Tryz.results173,go_sem,a0,a1,a2,a3,a4]) rfl ?_
      exact⟨_,rfl,z0l.nothing _ _,D2.out.end5 _ _ _ _ _⟩
    ·have E:=EC3.out.trans (if_neg (fun h=>hi h.1))
     obtain⟨e1,e2⟩:=NO.out 3 E (by decide)
     rw[e1,e2,E]
     have IN:=hid (fun W=>z4j (show z0m n=false from by simpa using hi) W)
     clear e0 E e1 e2 EC3 EW2 YES NO hi IA
     go_enter Tryz.func173,Tryz.ntmps173
     go_wp2_with fail
     refine(RD.out _ D0.out.f).mono ?_
     rintro e w1 ⟨rfl,f1⟩
     have D1:=hid (D0.out.go f1)
     clear d0 d1 d2 d3 d4
     obtain⟨d0,d1,d2,d3,d4⟩:=five D1.out.b
     go_wp2_with fail
     refine(TN.out _ D1.out.f).mono ?_
     rintro e w2 ⟨rfl,f2⟩
     have D2:=hid (D1.out.go f2)
     clear d0 d1 d2 d3 d4
     obtain⟨d0,d1,d2,d3,d4⟩:=five D2.out.b
     go_wp2_with fail
     refine(IN.out _).mono ?_
     rintro e w9 ⟨rfl,rfl⟩
     obtain⟨a0,a1,a2,a3,a4⟩:=five D2.out.o
     obtain⟨b0,b2,b3,b4,b5⟩:=z10 D2.out.o
     go_wp2
     refine bodyPost_ret (v:=.tuple #[.agg #[.int .i64 0,.string ⟨#[]⟩,.slice none 0 0,.slice none 0 0,.slice none 0 0],.int .i64 0,.int .i64 3]) (by simp[results,Tryz.results173,go_sem,a0,a1,a2,a3,a4]) rfl ?_
     exact⟨_,rfl,z0l.nothing _ _,D2.out.end5 _ _ _ _ _⟩
 ·have E:=EC.out.trans (if_pos ha)
  obtain⟨e1,e2⟩:=NO.out _ E ha
  rw[e1,e2,E]
  have q:(z02 1 x != 0)=true:=by simpa using ha
  have q':(z02 1 x==0)=false:=by simpa using ha
  clear E e1 e2 EC EW YES NO AK ha TI IA
  generalize z02 1 x=r at *
  go_enter Tryz.func173,Tryz.ntmps173
  go_wp2_with fail
  refine(RD.out _ D0.out.f).mono ?_
  rintro e w1 ⟨rfl,f1⟩
  have D1:=hid (D0.out.go f1)
  clear d0 d1 d2 d3 d4
  obtain⟨d0,d1,d2,d3,d4⟩:=five D1.out.b
  obtain⟨a0,a1,a2,a3,a4⟩:=five D1.out.o
  obtain⟨b0,b2,b3,b4,b5⟩:=z10 D1.out.o
  go_wp2
  refine bodyPost_ret (v:=.tuple #[.agg #[.int .i64 0,.string ⟨#[]⟩,.slice none 0 0,.slice none 0 0,.slice none 0 0],.int .i64 0,.int .i64 r]) (by simp[results,Tryz.results173,go_sem,a0,a1,a2,a3,a4]) rfl ?_
  exact⟨_,rfl,z0l.nothing _ _,D1.out.end5 _ _ _ _ _⟩
def ofV(v:Value)(x:Itm):Value:=if many x=0 then .agg #[.int .i64 0,.string ⟨#[]⟩,.slice none 0 0,.slice none 0 0,.slice none 0 0] else v
theorem zkq(x:Itm)(v:Value)(w:World)(B:Nat)(hs:x.Small)(hB:B≤w.heap.size)(h:z0q w B v x)(hk:x.kind≠1) :
  Calls prog 274 #[v] w fun e w'=>e=.returned (ofV v x)∧Fr [] w w':=by
 have M:=hid (fun W (hf:Fr [] w W)=>zkg x v W B hs (h.fr hf hB (by simp)))
 obtain⟨A1,c1,A2,c2,A3,c3,rfl,h1,h2,h3⟩:=h
 have F1:Fr [] w ((w.alloc (.cells #[.int .i64 x.kind,.string x.text,.slice A1 x.list.length c1,.slice A2 x.pairs.length c2,.slice A3 x.scores.length c3] 43)).alloc (.cells #[.int .i64 0,.string ⟨#[]⟩,.slice none 0 0,.slice none 0 0,.slice none 0 0] 43)):=((Fr.refl [] w).alloc _).alloc _
 have V1:=hid (show Whole ((w.alloc (.cells #[.int .i64 x.kind,.string x.text,.slice A1 x.list.length c1,.slice A2 x.pairs.length c2,.slice A3 x.scores.length c3] 43)).alloc (.cells #[.int .i64 0,.string ⟨#[]⟩,.slice none 0 0,.slice none 0 0,.slice none 0 0] 43)) w.heap.size 43 [.int .i64 x.kind,.string x.text,.slice A1 x.list.length c1,.slice A2 x.pairs.length c2,.slice A3 x.scores.length c3] from(Whole.new w _ _).alloc _)
 have R1:=hid (show Whole ((w.alloc (.cells #[.int .i64 x.kind,.string x.text,.slice A1 x.list.length c1,.slice A2 x.pairs.length c2,.slice A3 x.scores.length c3] 43)).alloc (.cells #[.int .i64 0,.string ⟨#[]⟩,.slice none 0 0,.slice none 0 0,.slice none 0 0] 43)) (w.heap.size+1) 43 [.int .i64 0,.string ⟨#[]⟩,.slice none 0 0,.slice none 0 0,.slice none 0 0] from by
  have:=Whole.new (w.alloc (.cells #[.int .i64 x.kind,.string x.text,.slice A1 x.list.length c1,.slice A2 x.pairs.length c2,.slice A3 x.scores.length c3] 43)) 43 [.int .i64 0,.string ⟨#[]⟩,.slice none 0 0,.slice none 0 0,.slice none 0 0]
  simpa using this)
 have q1:(x.kind != 1)=true:=by simpa using hk
 obtain⟨d0,d1,d2,d3,d4⟩:=five V1.out
 clear h1 h2 h3 hs hk
 unfold ofV
 generalize many x=m at *
 by_cases hm:m=0
 ·subst hm
  rw[if_pos rfl]
  go_enter Tryz.func274,Tryz.ntmps274
  go_wp2_with fail
  refine(M.out _ F1).mono ?_
  rintro e w1 ⟨rfl,f1⟩
  have F2:=F1.trans f1
  have V2:=hid (V1.out.fr f1 (by simp))
  have R2:=hid (R1.out.fr f1 (by simp))
  clear d0 d1 d2 d3 d4
  obtain⟨d0,d1,d2,d3,d4⟩:=five V2.out
  obtain⟨a0,a1,a2,a3,a4⟩:=five R2.out
  obtain⟨b0,b2,b3,b4,b5⟩:=z10 R2.out
  go_wp2
  refine bodyPost_ret (v:=.agg #[.int .i64 0,.string ⟨#[]⟩,.slice none 0 0,.slice none 0 0,.slice none 0 0]) (by simp[results,Tryz.results274,go_sem,a0,a1,a2,a3,a4]) rfl ?_
  refine⟨rfl,z49 F2 (by omega) _ _ _ _ _⟩
 ·rw[if_neg hm]
  have q2:((m:Int)==0)=false:=by simp;omega
  go_enter Tryz.func274,Tryz.ntmps274
  go_wp2_with fail
  refine(M.out _ F1).mono ?_
  rintro e w1 ⟨rfl,f1⟩
  have F2:=F1.trans f1
  have V2:=hid (V1.out.fr f1 (by simp))
  have R2:=hid (R1.out.fr f1 (by simp))
  clear d0 d1 d2 d3 d4
  obtain⟨d0,d1,d2,d3,d4⟩:=five V2.out
  obtain⟨a0,a1,a2,a3,a4⟩:=five R2.out
  obtain⟨b0,b2,b3,b4,b5⟩:=z10 R2.out
  go_wp2
  refine bodyPost_ret (v:=.agg #[.int .i64 x.kind,.string x.text,.slice A1 x.list.length c1,.slice A2 x.pairs.length c2,.slice A3 x.scores.length c3]) (by simp[results,Tryz.results274,go_sem,a0,a1,a2,a3,a4]) rfl ?_
  refine⟨rfl,z49 F2 (by omega) _ _ _ _ _⟩
def z4z(l:List ByteArray)(s:ByteArray):Bool:=l.any fun y=>decide (y=s)
theorem z2h{l:List ByteArray}{s:ByteArray}:z4z l s=true↔s∈l:=by
 unfold z4z
 rw[List.any_eq_true]
 constructor
 ·rintro⟨y,hy,he⟩
  have:y=s:=by simpa using he
  exact this ▸ hy
 ·intro h
  exact⟨s,h,by simp⟩
theorem zuk{l:List ByteArray}{s:ByteArray}(h:s∉l):z4z l s=false:=by
 rw[Bool.eq_false_iff]
 exact fun he=>h (z2h.1 he)
def z8m(l m:List ByteArray):List ByteArray:=l.filter fun y=>!z4z m y
theorem neqB'{s t:ByteArray}(h:s≠t):(s.toList==t.toList)=false:=by
 have:=eqB s t
 rw[decide_eq_false h] at this
 exact this
def zbh(k:Int)(l:List ByteArray):Itm:=⟨k,⟨#[]⟩,l,[],[]⟩
def ofK(k:Int)(l:List ByteArray):Itm:=if l.length=0 then z2r 0 else zbh k l
theorem zhx{k:Int}{l:List ByteArray}(hk:0≤k∧k≤5)(hl:l.length≤281474976710656)(ht:∀s∈l,s.size≤281474976710656):(zbh k l).Small:=
 ⟨by show -9223372036854775808≤k∧k≤9223372036854775807;omega,by show(⟨#[]⟩:ByteArray).size≤_;decide,by show l.length≤_;omega,by show 0≤_;omega,by show 0≤_;omega,ht,(fun p hp=>by cases hp),(fun p hp=>by cases hp)⟩
theorem zcx{k:Int}{l:List ByteArray}(hk:0≤k∧k≤5)(hl:l.length≤1000000)(ht:∀s∈l,s.size≤281474976710656):(zbh k l).Small:=zhx hk (by omega) ht
theorem zsm(k:Int)(l:List ByteArray):(ofK k l).list=l:=by
 unfold ofK
 by_cases h:l.length=0
 ·rw[if_pos h];exact(List.eq_nil_of_length_eq_zero h).symm
 ·rw[if_neg h];rfl
def z60(k:Int)(x:Itm)(m:List ByteArray):Itm:=if z02 k x=0 then ofK k (z8m x.list m) else z2r 0
def z9r(k:Int)(x:Itm)(m:List ByteArray):Int:=if z02 k x=0 then (x.list.length:Int) - (z8m x.list m).length else 0
end Go.Proofs.YtamgdmiopinidaaGreatDoor
namespace Go.Proofs.YtamgdmiopinidaaGreatDoor
open Lib (hid)
open Tryz (prog)
theorem zq8:∀a:List UInt8,Lib.compareBytes a a=0
 | []=>rfl
 | x :: r=>by
  show(if x < x then -1 else if x < x then 1 else Lib.compareBytes r r)=0
  rw[if_neg (UInt8.lt_irrefl x),if_neg (UInt8.lt_irrefl x),zq8 r]
theorem zxd:∀a b:List UInt8,Lib.compareBytes a b=0→a=b
 | [],[],_=>rfl
 | [],y :: s,h=>by cases h
 | x :: r,[],h=>by cases h
 | x :: r,y :: s,h=>by
  have h':(if x < y then -1 else if y < x then 1 else Lib.compareBytes r s)=(0:Int):=h
  by_cases h1:x < y
  ·rw[if_pos h1] at h';cases h'
  ·rw[if_neg h1] at h'
   by_cases h2:y < x
   ·rw[if_pos h2] at h';cases h'
   ·rw[if_neg h2] at h'
    have e:x=y:=by
     apply UInt8.toNat_inj.1
     rw[UInt8.lt_iff_toNat_lt] at h1 h2
     omega
    rw[e,zxd r s h']
theorem zqk:∀a b:List UInt8,Lib.compareBytes b a=- Lib.compareBytes a b
 | [],[]=>rfl
 | [],y :: s=>rfl
 | x :: r,[]=>rfl
 | x :: r,y :: s=>by
  show(if y < x then -1 else if x < y then 1 else Lib.compareBytes s r)=- (if x < y then -1 else if y < x then 1 else Lib.compareBytes r s)
  by_cases h1:x < y
  ·have h2:¬y < x:=by have:=UInt8.lt_iff_toNat_lt.1 h1;rw[UInt8.lt_iff_toNat_lt];omega
   rw[if_neg h2,if_pos h1,if_pos h1];rfl
  ·rw[if_neg h1,if_neg h1]
   by_cases h2:y < x
   ·rw[if_pos h2,if_pos h2]
   ·rw[if_neg h2,if_neg h2,zqk r s]
theorem zkn:∀a b c:List UInt8,Lib.compareBytes a b < 0→Lib.compareBytes b c < 0→Lib.compareBytes a c < 0
 | [],[],_,h,_=>by exact absurd h (by decide)
 | x :: r,[],_,h,_=>by exact absurd (show(1:Int) < 0 from h) (by decide)
 | _,y :: s,[],_,h=>by exact absurd (show(1:Int) < 0 from h) (by decide)
 | [],y :: s,z :: t,_,_=>by show(-1:Int) < 0;decide
 | x :: r,y :: s,z :: t,h1,h2=>by
  have h1':(if x < y then -1 else if y < x then 1 else Lib.compareBytes r s) < (0:Int):=h1
  have h2':(if y < z then -1 else if z < y then 1 else Lib.compareBytes s t) < (0:Int):=h2
  show(if x < z then -1 else if z < x then 1 else Lib.compareBytes r t) < (0:Int)
  simp only[UInt8.lt_iff_toNat_lt] at *
  by_cases a1:x.toNat < y.toNat
  ·by_cases b1:y.toNat < z.toNat
   ·rw[if_pos (by omega)];decide
   ·by_cases b2:z.toNat < y.toNat
    ·rw[if_neg b1,if_pos b2] at h2';exact absurd h2' (by decide)
    ·rw[if_pos (by omega)];decide
  ·rw[if_neg a1] at h1'
   by_cases a2:y.toNat < x.toNat
   ·rw[if_pos a2] at h1';exact absurd h1' (by decide)
   ·rw[if_neg a2] at h1'
    by_cases b1:y.toNat < z.toNat
    ·rw[if_pos (by omega)];decide
    ·rw[if_neg b1] at h2'
     by_cases b2:z.toNat < y.toNat
     ·rw[if_pos b2] at h2';exact absurd h2' (by decide)
     ·rw[if_neg b2] at h2'
      rw[if_neg (by omega),if_neg (by omega)]
      exact zkn r s t h1' h2'
theorem z4l(a:ByteArray):z4m a a=0:=zq8 _
theorem z8s{a b:ByteArray}(h:z4m a b=0):a=b:=by
 have:=zxd _ _ h
 obtain⟨⟨a⟩⟩:=a
 obtain⟨⟨b⟩⟩:=b
 simp at this
 subst this
 rfl
theorem z69(a b:ByteArray):z4m b a=- z4m a b:=zqk _ _
theorem z55{a b c:ByteArray}(h1:z4m a b < 0)(h2:z4m b c < 0):z4m a c < 0:=zkn _ _ _ h1 h2
theorem z6p{α:Type}{lt:α→α→Bool}(htr:∀a b c,lt a b=true→lt b c=true→lt a c=true):∀ {l:List α},rises lt l=true→∀ {i j:Nat} {a b:α},i < j→l[i]? = some a→l[j]? = some b→lt a b=true
 | [],_,i,j,a,b,_,h,_=>by simp at h
 | [x],_,i,j,a,b,hij,_,h=>by
  have:=(List.getElem?_eq_some_iff.1 h).1
  simp at this
  omega
 | x :: y :: r,h,i,j,a,b,hij,ha,hb=>by
  have h':(lt x y&&rises lt (y :: r))=true:=h
  rw[Bool.and_eq_true] at h'
  obtain⟨j',rfl⟩:∃j',j=j'+1:=⟨j - 1,by omega⟩
  rw[List.getElem?_cons_succ] at hb
  match i with
  | 0=>
   rw[List.getElem?_cons_zero] at ha
   cases ha
   match j' with
   | 0=>rw[List.getElem?_cons_zero] at hb;cases hb;exact h'.1
   | j''+1=>exact htr _ _ _ h'.1 (z6p htr h'.2 (i:=0) (j:=j''+1) (by omega) rfl hb)
  | i'+1=>
   rw[List.getElem?_cons_succ] at ha
   exact z6p htr h'.2 (i:=i') (j:=j') (by omega) ha hb
theorem z2n{α:Type}{lt:α→α→Bool}(htr:∀a b c,lt a b=true→lt b c=true→lt a c=true){l:List α}(h:rises lt l=true):l.Pairwise (fun a b=>lt a b=true):=by
 rw[List.pairwise_iff_getElem]
 intro i j hi hj hij
 exact z6p htr h hij (List.getElem?_eq_getElem hi) (List.getElem?_eq_getElem hj)
theorem zbx{α:Type}{lt:α→α→Bool}:∀ {l:List α},(∀(i:Nat) a b,l[i]? = some a→l[i+1]? = some b→lt a b=true)→rises lt l=true
 | [],_=>rfl
 | [x],_=>rfl
 | x :: y :: r,h=>by
  show(lt x y&&rises lt (y :: r))=true
  rw[Bool.and_eq_true]
  exact⟨h 0 x y rfl rfl,zbx fun i a b ha hb=>h (i+1) a b ha hb⟩
theorem z3i{α:Type}{lt:α→α→Bool}{l:List α}(h:l.Pairwise (fun a b=>lt a b=true)):rises lt l=true:=by
 apply zbx
 intro i a b ha hb
 obtain⟨hi,rfl⟩:=List.getElem?_eq_some_iff.1 ha
 obtain⟨hj,rfl⟩:=List.getElem?_eq_some_iff.1 hb
 exact List.pairwise_iff_getElem.1 h i (i+1) hi hj (Nat.lt_succ_self i)
section
variable {α:Type} (key:α→ByteArray)
def z1z(l:List α)(f:ByteArray):Nat:=(l.takeWhile fun q=>decide (z4m (key q) f < 0)).length
def z5r(l:List α)(f:ByteArray):Bool:=match l[z1z key l f]? with|some q=>decide (z4m (key q) f=0)|none=>false
def zbl(l:List α)(p:α):List α:=if z5r key l (key p)=true then l.set (z1z key l (key p)) p else l.take (z1z key l (key p))++p :: l.drop (z1z key l (key p))
def ltK(a b:α):Bool:=decide (z4m (key a) (key b) < 0)
theorem z5b(l:List α)(f:ByteArray):z1z key l f≤l.length:=by
 unfold z1z
 exact(List.takeWhile_sublist _).length_le
theorem z7g:∀ {l:List α} {f:ByteArray} {k:Nat} {q:α},k < z1z key l f→l[k]? = some q→z4m (key q) f < 0
 | [],f,k,q,h,hq=>by simp at hq
 | x :: r,f,k,q,h,hq=>by
  unfold z1z at h
  rw[List.takeWhile_cons] at h
  by_cases hx:z4m (key x) f < 0
  ·rw[if_pos (by simpa using hx)] at h
   match k with
   | 0=>rw[List.getElem?_cons_zero] at hq;cases hq;exact hx
   | k'+1=>
    rw[List.getElem?_cons_succ] at hq
    exact z7g (l:=r) (k:=k') (by unfold z1z;simp at h;omega) hq
  ·rw[if_neg (by simpa using hx)] at h
   simp at h
theorem zc2:∀ {l:List α} {f:ByteArray} {q:α},l[z1z key l f]? = some q→¬z4m (key q) f < 0
 | [],f,q,hq=>by simp at hq
 | x :: r,f,q,hq=>by
  unfold z1z at hq
  rw[List.takeWhile_cons] at hq
  by_cases hx:z4m (key x) f < 0
  ·rw[if_pos (by simpa using hx),List.length_cons,List.getElem?_cons_succ] at hq
   exact zc2 (l:=r) hq
  ·rw[if_neg (by simpa using hx)] at hq
   simp at hq
   rw[←hq]
   exact hx
theorem z33(a b c:α)(h1:ltK key a b=true)(h2:ltK key b c=true):ltK key a c=true:=
 decide_eq_true (z55 (of_decide_eq_true h1) (of_decide_eq_true h2))
theorem zev{l:List α}{f:ByteArray}{k:Nat}{q:α}(hr:rises (ltK key) l=true)(hk:z1z key l f≤k)(hq:l[k]? = some q):¬z4m (key q) f < 0:=by
 obtain⟨hlt,_⟩:=List.getElem?_eq_some_iff.1 hq
 obtain⟨q0,h0⟩:∃q0,l[z1z key l f]? = some q0:=⟨_,List.getElem?_eq_getElem (by omega)⟩
 have n0:=zc2 key h0
 rcases Nat.lt_or_ge (z1z key l f) k with h|h
 ·intro hlt
  have:=of_decide_eq_true (z6p (z33 key) hr h h0 hq)
  exact n0 (z55 this hlt)
 ·have e:k=z1z key l f:=by omega
  rw[e,h0] at hq
  cases hq
  exact n0
theorem zv5{l:List α}{f:ByteArray}{k:Nat}{q:α}(hr:rises (ltK key) l=true)(hk:z1z key l f < k)(hq:l[k]? = some q):0 < z4m (key q) f:=by
 obtain⟨hlt,_⟩:=List.getElem?_eq_some_iff.1 hq
 obtain⟨q0,h0⟩:∃q0,l[z1z key l f]? = some q0:=⟨_,List.getElem?_eq_getElem (by omega)⟩
 have n0:=zc2 key h0
 have h1:=of_decide_eq_true (z6p (z33 key) hr hk h0 hq)
 have a1:=z69 (key q0) f
 rcases Int.lt_trichotomy (z4m (key q) f) 0 with h|h|h
 ·exact absurd (z55 h1 h) n0
 ·rw[z8s h] at h1;exact absurd h1 n0
 ·exact h
theorem z36{l:List α}{f:ByteArray}:z5r key l f=true↔∃q,l[z1z key l f]? = some q∧key q=f:=by
 unfold z5r
 constructor
 ·intro h
  split at h
  ·rename_i q hq
   exact⟨q,hq,z8s (of_decide_eq_true h)⟩
  ·cases h
 ·rintro⟨q,hq,rfl⟩
  rw[hq]
  exact decide_eq_true (z4l _)
theorem zee{l:List α}{k:Nat}{q:α}(hr:rises (ltK key) l=true)(hq:l[k]? = some q):z1z key l (key q)=k:=by
 rcases Nat.lt_trichotomy k (z1z key l (key q)) with h|h|h
 ·have:=z7g key h hq
  rw[z4l] at this
  exact absurd this (by decide)
 ·exact h.symm
 ·have:=zv5 key hr h hq
  rw[z4l] at this
  exact absurd this (by decide)
theorem zcm{l:List α}{k:Nat}{q:α}(hr:rises (ltK key) l=true)(hq:l[k]? = some q):z5r key l (key q)=true:=
 (z36 key).2 ⟨q,by rw[zee key hr hq];exact hq,rfl⟩
theorem zj4(l:List α)(p:α):(zbl key l p).length=if z5r key l (key p)=true then l.length else l.length+1:=by
 unfold zbl
 have:=z5b key l (key p)
 by_cases h:z5r key l (key p)=true
 ·rw[if_pos h,if_pos h,List.length_set]
 ·rw[if_neg h,if_neg h,List.length_append,List.length_cons,List.length_take,List.length_drop]
  omega
theorem zs4{l:List α}{p q:α}(h:q∈zbl key l p):q=p∨q∈l:=by
 unfold zbl at h
 by_cases hh:z5r key l (key p)=true
 ·rw[if_pos hh] at h
  rcases List.mem_or_eq_of_mem_set h with h|h
  ·exact .inr h
  ·exact .inl h
 ·rw[if_neg hh] at h
  rcases List.mem_append.1 h with h|h
  ·exact .inr (List.mem_of_mem_take h)
  ·rcases List.mem_cons.1 h with h|h
   ·exact .inl h
   ·exact .inr (List.mem_of_mem_drop h)
theorem ze2{l:List α}(p:α)(hr:rises (ltK key) l=true):rises (ltK key) (zbl key l p)=true:=by
 have hle:=z5b key l (key p)
 have step:∀ {i:Nat} {a b:α},l[i]? = some a→l[i+1]? = some b→ltK key a b=true:=fun ha hb=>z6p (z33 key) hr (Nat.lt_succ_self _) ha hb
 unfold zbl
 by_cases hh:z5r key l (key p)=true
 ·rw[if_pos hh]
  obtain⟨q,hq,he⟩:=(z36 key).1 hh
  have hlt:=(List.getElem?_eq_some_iff.1 hq).1
  apply zbx
  intro i a b ha hb
  by_cases h1:i=z1z key l (key p)
  ·rw[h1,List.getElem?_set_self hlt] at ha
   rw[h1,List.getElem?_set_ne (by omega)] at hb
   cases ha
   have:=step hq hb
   unfold ltK at this ⊢
   rw[←he]
   exact this
  ·rw[List.getElem?_set_ne (by omega)] at ha
   by_cases h2:i+1=z1z key l (key p)
   ·rw[h2,List.getElem?_set_self hlt] at hb
    cases hb
    rw[←h2] at hq
    have:=step ha hq
    unfold ltK at this ⊢
    rw[←he]
    exact this
   ·rw[List.getElem?_set_ne (by omega)] at hb
    exact step ha hb
 ·rw[if_neg hh]
  have hno:∀q,l[z1z key l (key p)]? = some q→key q≠key p:=fun q hq he=>hh ((z36 key).2 ⟨q,hq,he⟩)
  apply zbx
  intro i a b ha hb
  have hlt:(l.take (z1z key l (key p))).length=z1z key l (key p):=by rw[List.length_take];omega
  rcases Nat.lt_trichotomy (i+1) (z1z key l (key p)) with h|h|h
  ·rw[List.getElem?_append_left (by omega),List.getElem?_take_of_lt (by omega)] at ha hb
   exact step ha hb
  ·rw[List.getElem?_append_left (by omega),List.getElem?_take_of_lt (by omega)] at ha
   rw[List.getElem?_append_right (by omega),hlt,show i+1 - z1z key l (key p)=0 by omega,List.getElem?_cons_zero] at hb
   cases hb
   exact decide_eq_true (z7g key (by omega) ha)
  ·by_cases h2:i=z1z key l (key p)
   ·rw[List.getElem?_append_right (by omega),hlt,show i - z1z key l (key p)=0 by omega,List.getElem?_cons_zero] at ha
    rw[List.getElem?_append_right (by omega),hlt,show i+1 - z1z key l (key p)=0+1 by omega,List.getElem?_cons_succ,List.getElem?_drop,Nat.add_zero] at hb
    cases ha
    have n1:=zc2 key hb
    have n2:=hno b hb
    have a1:=z69 (key b) (key p)
    refine decide_eq_true ?_
    rcases Int.lt_trichotomy (z4m (key b) (key p)) 0 with h|h|h
    ·exact absurd h n1
    ·exact absurd (z8s h) n2
    ·omega
   ·rw[List.getElem?_append_right (by omega),hlt,show i - z1z key l (key p)=(i - 1 - z1z key l (key p))+1 by omega,List.getElem?_cons_succ,List.getElem?_drop] at ha
    rw[List.getElem?_append_right (by omega),hlt,show i+1 - z1z key l (key p)=(i - z1z key l (key p))+1 by omega,List.getElem?_cons_succ,List.getElem?_drop] at hb
    rw[show z1z key l (key p)+(i - 1 - z1z key l (key p))=i - 1 by omega] at ha
    rw[show z1z key l (key p)+(i - z1z key l (key p))=i - 1+1 by omega] at hb
    exact step ha hb
end
end Go.Proofs.YtamgdmiopinidaaGreatDoor
