/- Contracts that the proof of E3 uses. No condition beyond those in each theorem. -/
import Derived.Test.YtamgdmiopinidaaGreatDoorSlE35
set_option linter.unusedVariables false
set_option linter.unusedSimpArgs false
set_option maxHeartbeats 8000000
set_option maxRecDepth 100000
namespace Go.Proofs.YtamgdmiopinidaaGreatDoor
open Lib (hid)
open Tryz (prog)
open Go.RowKit
theorem znd(w:World)(k:Nat)(os:Array Obj):Fr [] w (Sort.grow (w.drewN k) os):=
 ⟨rfl,rfl,rfl,by show w.heap.size≤(w.heap++os).size;simp,fun j hj _=>by
  show(w.heap++os)[j]? = w.heap[j]?
  rw[Array.getElem?_append_left hj]⟩
theorem zkm(w:World)(e:TypeId)(s:ByteArray):Fr [] w (Lib.bytesWorld w e s):=by
 unfold Lib.bytesWorld
 refine⟨rfl,rfl,rfl,by simp[World.freeze],fun j hj _=>?_⟩
 have h1:(w.drew.alloc (.cells (Lib.bytesCells w e s) e)).heap[j]? = w.heap[j]? := Below.heap_alloc w.drew _ j hj
 have hne:w.heap.size≠j:=by omega
 simpa[World.freeze,Array.getElem?_modify,hne] using h1
structure Vars(w:World):Prop where
 tab:Lib.TabIs prog w "internal/strconv.uint64pow10" .u64 Lib.pow10Tab
 syn:∃tp p,w.var? prog "strconv.ErrSyntax" = some #[.iface tp p]
 rng:∃tp p,w.var? prog "strconv.ErrRange" = some #[.iface tp p]
theorem zqd{P:Program}{w w':World}{n:String}{cs:Array Value}(h:w.var? P n=some cs)(hf:Fr [] w w'):w'.var? P n=some cs:=by
 unfold World.var? at h ⊢
 cases hg:P.globalNamed n with
 | none=>rw[hg] at h;cases h
 | some g=>
  rw[hg] at h
  simp only[Option.bind_some] at h ⊢
  cases hb:w.heap[g]? with
  | none=>rw[hb] at h;cases h
  | some o=>
   have hlt:g < w.heap.size:=(Array.getElem?_eq_some_iff.1 hb).1
   rw[hf.block g hlt (by simp),hb]
   rw[hb] at h
   exact h
theorem Vars.fr{w w':World}(h:Vars w)(hf:Fr [] w w'):Vars w':=
 ⟨zqd h.tab hf,h.syn.imp fun _ ⟨p,hp⟩=>⟨p,zqd hp hf⟩,h.rng.imp fun _ ⟨p,hp⟩=>⟨p,zqd hp hf⟩⟩
def Tab(w:World):Prop:=Lib.TabIs prog w "internal/strconv.uint64pow10" .u64 Lib.pow10Tab
theorem zxo(n:Int)(w:World)(hv:Tab w)(h:-9223372036854775808≤n∧n≤9223372036854775807) :
  Calls prog 102 #[.int .i64 n] w fun e w'=>e=.returned (.string ⟨(Lib.itoa n).toArray⟩)∧Fr [] w w':=
 (Tryz.strconv_Itoa n h.1 h.2 w hv).mono fun e w' ⟨he,k,os,hw⟩=>⟨he,by rw[hw];exact znd w k os⟩
theorem zks(n:Int)(w:World)(hv:Vars w)(h:-9223372036854775808≤n∧n≤9223372036854775807) :
  Calls prog 102 #[.int .i64 n] w fun e w'=>e=.returned (.string ⟨(Lib.itoa n).toArray⟩)∧Fr [] w w':=
 (Tryz.strconv_Itoa n h.1 h.2 w hv.tab).mono fun e w' ⟨he,k,os,hw⟩=>⟨he,by rw[hw];exact znd w k os⟩
def zth(s:ByteArray)(w:World)(e:Ending)(w':World):Prop:=∃(n:Int) (v:Value),e=.returned (.tuple #[.int .i64 n,v])∧(-9223372036854775808≤n∧n≤9223372036854775807) ∧
 ((v=.nilIface∧Lib.atoiAll s.data.toList=.ok n)∨((∃t N,v=.iface t (.pointer (some ⟨N,0,none⟩)))∧z3v s.data.toList=none))∧Fr [] w w'
theorem zim{l:List UInt8}{v:Int}(h:Lib.atoiAll l=.ok v):-9223372036854775808≤v∧v≤9223372036854775807:=by
 unfold Lib.atoiAll at h
 split at h
 ·cases h
 ·simp only at h
  split at h
  ·cases h
  ·cases h
  ·split at h
   ·cases h
   ·rename_i h1
    split at h
    ·cases h
    ·rename_i h2
     injection h with h
     subst h
     split <;> omega
theorem zrh(s:ByteArray)(w:World)(hv:Vars w)(hs:s.size≤281474976710656) :
  Calls prog 101 #[.string s] w (zth s w):=by
 rcases h:Lib.atoiAll s.data.toList with v|_|_
 ·refine(Tryz.strconv_Atoi_ok s (by omega) v h w).mono fun e w' ⟨he,hw⟩=>⟨v,_,he,zim h,.inl ⟨rfl,h⟩,?_⟩
  rcases hw with rfl|⟨t,rfl⟩
  ·exact Fr.refl [] _
  ·exact zkm _ _ _
 ·obtain⟨tp,p,hp⟩:=hv.syn
  exact(Tryz.strconv_Atoi_syntax_var s hs h tp p w hp).mono fun e w' ⟨N,he,_,_,hb⟩=>⟨0,_,he,by decide,.inr ⟨⟨_,N,rfl⟩,zkr (fun v=>by rw[h];exact fun e=>by cases e)⟩,Fr.of_below hb⟩
 ·obtain⟨tp,p,hp⟩:=hv.rng
  refine(Tryz.strconv_Atoi_range_var s hs h tp p w hp).mono fun e w' ⟨N,he,_,_,hb⟩=>⟨_,_,he,?_,.inr ⟨⟨_,N,rfl⟩,zkr (fun v=>by rw[h];exact fun e=>by cases e)⟩,Fr.of_below hb⟩
  unfold Lib.atoiSat
  split <;> decide
def zhe(s:ByteArray)(w:World)(e:Ending)(w':World):Prop:=∃n:Int,e=.returned (.tuple #[.int .i64 n,.bool (z3v s.data.toList).isSome])∧(-9223372036854775808≤n∧n≤9223372036854775807)∧(∀v,z3v s.data.toList=some v→n=v)∧Fr [] w w'
theorem z8w(s:ByteArray)(w:World)(hv:Vars w)(hs:s.size≤281474976710656) :
  Calls prog 66 #[.string s] w (zhe s w):=by
 have AT:=hid (zrh s w hv hs)
 have HV:=hid hv
 clear hv
 go_enter Tryz.func66,Tryz.ntmps66
 go_wp2_with fail
 refine AT.out.mono ?_
 rintro e w1 ⟨n,v,rfl,hn,hc,f1⟩
 have IT:=hid (fun(W:World) (hW:Fr [] w1 W)=>zks n W (HV.out.fr (f1.trans hW)) hn)
 have II:=hid (fun(W:World)=>z6h n W)
 have F1:=hid f1
 clear f1
 rcases hc with⟨rfl,ho⟩|⟨⟨t,N,rfl⟩,hno⟩
 ·have hp:=zn8 ho
  have hq:=eqB ⟨(Lib.itoa n).toArray⟩ s
  by_cases h1:Lib.itoa n=s.data.toList
  ·have e1:(⟨(Lib.itoa n).toArray⟩:ByteArray)=s:=by rw[h1]
   rw[e1]  at hq IT
   have q1:(s.toList==s.toList)=true:=by simp
   by_cases h2:z0m n=true
   ·rw[if_pos ⟨h1,h2⟩] at hp
    rw[h2] at II
    have HP:=hid hp
    clear hp ho hq h1 h2 e1
    go_wp2_with fail
    refine(IT.out _ (Fr.refl [] _)).mono ?_
    rintro e w2 ⟨rfl,f2⟩
    go_wp2_with fail
    refine(II.out _).mono ?_
    rintro e w3 ⟨rfl,h3⟩
    subst h3
    go_wp2
    go_ret2
    exact⟨n,by rw[HP.out];rfl,hn,(fun v h=>by rw[HP.out] at h;injection h),F1.out.trans f2⟩
   ·rw[if_neg (fun h=>h2 h.2)] at hp
    rw[show z0m n=false by simpa using h2] at II
    have HP:=hid hp
    clear hp ho hq h1 h2 e1
    go_wp2_with fail
    refine(IT.out _ (Fr.refl [] _)).mono ?_
    rintro e w2 ⟨rfl,f2⟩
    go_wp2_with fail
    refine(II.out _).mono ?_
    rintro e w3 ⟨rfl,h3⟩
    subst h3
    go_wp2
    go_ret2
    exact⟨n,by rw[HP.out];rfl,hn,(fun v h=>by rw[HP.out] at h;cases h),F1.out.trans f2⟩
  ·rw[if_neg (fun h=>h1 h.1)] at hp
   have HP:=hid hp
   have q1:((⟨(Lib.itoa n).toArray⟩:ByteArray).toList==s.toList)=false:=by
    rw[hq]
    exact decide_eq_false (fun e=>h1 (by rw[←e]))
   clear hp ho hq h1
   generalize (⟨(Lib.itoa n).toArray⟩:ByteArray)=r at *
   go_wp2_with fail
   refine(IT.out _ (Fr.refl [] _)).mono ?_
   rintro e w2 ⟨rfl,f2⟩
   go_wp2
   go_ret2
   exact⟨n,by rw[HP.out];rfl,hn,(fun v h=>by rw[HP.out] at h;cases h),F1.out.trans f2⟩
 ·have HP:=hid hno
  clear hno
  go_wp2
  go_ret2
  exact⟨n,by rw[HP.out];rfl,hn,(fun v h=>by rw[HP.out] at h;cases h),F1.out⟩
theorem ztp(g:Nat)(lb:Array Value)(eg:∀args w,(callFunc g args).run prog w=.ok (.enter g args) w)(p:ByteArray→Bool)(D:Nat)(l:List ByteArray)(A:Option Addr)(c B:Nat)(w:World)(hp:zjh g lb p D w)(hl:l.length≤281474976710656)(hB:B≤w.heap.size)
  (hsl:Sl w B 1 (.slice A l.length c) l.length (z03 l)) :
  Calls prog 99 #[.slice A l.length c,.func (Fn.func g) #[] lb] w fun e w'=>e=.returned (.bool (l.any p))∧Fr [] w w':=by
 have I:=hid (zk9 g lb eg p D l A c B w hp hl hB hsl)
 have h:=z7l p l
 clear hsl hp
 generalize z3c p l=r at *
 generalize l.any p=b at *
 generalize l.length=n at *
 cases b
 ·have hr:r < 0:=by simpa using h
  clear h
  go_enter Tryz.func99,Tryz.ntmps99
  go_wp2_with fail
  refine I.out.mono ?_
  rintro e w1 ⟨rfl,h1⟩
  go_wp2
  go_ret
  exact⟨by simp <;> omega,h1⟩
 ·have hr:0≤r:=by simpa using h
  clear h
  go_enter Tryz.func99,Tryz.ntmps99
  go_wp2_with fail
  refine I.out.mono ?_
  rintro e w1 ⟨rfl,h1⟩
  go_wp2
  go_ret
  exact⟨by simp <;> omega,h1⟩
def z0r(l:List ByteArray):Int:=if l.length=0 then 1 else if 12 < l.length then 2 else if l.any z40=true then 2 else 0
theorem z3q{l:List ByteArray}(h:z0r l=0):zxm l:=by
 unfold z0r at h
 split at h
 ·cases h
 ·split at h
  ·cases h
  ·split at h
   ·cases h
   ·rename_i h1 h2 h3
    refine⟨by omega,by omega,fun s hs=>?_⟩
    have:=h3
    simp only[Bool.not_eq_true,List.any_eq_false] at this
    have:=this s hs
    unfold z40 at this
    simp at this
    exact this
theorem zlh(s:ByteArray)(w:World):Calls prog 100 (#[.string s]++#[]) w fun e w'=>e=.returned (.bool (z40 s))∧w'=w:=by
 unfold z40
 go_enter Tryz.func100,Tryz.ntmps100
 go_wp2
 go_ret
 exact⟨by simp <;> omega,rfl⟩
theorem z6w(l:List ByteArray)(A:Option Addr)(c B:Nat)(w:World)(hl:l.length≤281474976710656)(hB:B≤w.heap.size)(h:Sl w B 1 (.slice A l.length c) l.length (z03 l)) :
  Calls prog 63 #[.slice A l.length c] w fun e w'=>e=.returned (.int .i64 (z0r l))∧Fr [] w w':=by
 have CF:=hid (ztp 100 #[] (z1x Tryz.func100 (by kernel_rfl) rfl) z40 w.heap.size l A c B w (fun W x hW=>(zlh x W).mono fun e w' ⟨he,hw⟩=>⟨he,by rw[hw];exact Fr.refl _ _⟩) hl hB h)
 have EW:z0r l=if l.length=0 then 1 else if 12 < l.length then 2 else if l.any z40=true then 2 else 0:=rfl
 clear h
 by_cases h0:l.length=0
 ·rw[EW,if_pos h0]
  have q:((l.length:Int)==0)=true:=beq_iff_eq.2 (by omega)
  clear EW CF
  go_enter Tryz.func63,Tryz.ntmps63
  go_wp2
  go_ret
  exact⟨rfl,Fr.refl _ _⟩
 ·have q:((l.length:Int)==0)=false:=beq_eq_false_iff_ne.2 (by omega)
  rw[EW,if_neg h0]
  by_cases h12:12 < l.length
  ·rw[if_pos h12]
   clear EW CF h0
   have q2:(l.length:Int) > 12:=by omega
   go_enter Tryz.func63,Tryz.ntmps63
   go_wp2
   go_ret
   exact⟨rfl,Fr.refl _ _⟩
  ·rw[if_neg h12]
   have q2:¬(l.length:Int) > 12:=by omega
   clear EW h0
   generalize l.any z40=b at *
   cases b
   all_goals
    go_enter Tryz.func63,Tryz.ntmps63
    go_wp2_with fail
    refine CF.out.mono ?_
    rintro e w1 ⟨rfl,f1⟩
    go_wp2
    go_ret
    exact⟨rfl,f1⟩
attribute [local go_sem ↓] Go.wp_at_zero Go.wp_at_succ
def z0o(x:Itm):Bool:=x.kind==0&&z6g x
def z02(k:Int)(x:Itm):Int:=if z0o x=true then 0 else if z0d x=0 then (if x.kind=k then 0 else 7) else z0d x
theorem z6i(x:Itm)(v:Value)(w:World)(B:Nat)(hs:x.Small)(hB:B≤w.heap.size)(h:z0q w B v x) :
  Calls prog 107 #[v] w fun e w'=>e=.returned (.bool (z0o x))∧Fr [] w w':=by
 have Bq:=hid (fun W (hf:Fr [] w W)=>zke x v W B hs (h.fr hf hB (by simp)))
 obtain⟨A1,c1,A2,c2,A3,c3,rfl,h1,h2,h3⟩:=h
 have F0:Fr [] w (w.alloc (.cells #[.int .i64 x.kind,.string x.text,.slice A1 x.list.length c1,.slice A2 x.pairs.length c2,.slice A3 x.scores.length c3] 43)):=(Fr.refl [] w).alloc _
 have hE:z0o x=(x.kind==0&&z6g x):=rfl
 clear h1 h2 h3 hs
 generalize z0o x=r at *
 generalize z6g x=b at *
 generalize x.list.length=n1 at *
 generalize x.pairs.length=n2 at *
 generalize x.scores.length=n3 at *
 generalize x.kind=k at *
 by_cases hk:k=0
 ·subst hk
  rw[show((0:Int)==0)=true from rfl,Bool.true_and] at hE
  subst hE
  go_enter Tryz.func107,Tryz.ntmps107
  go_wp2_with fail
  refine(Bq.out _ F0).mono ?_
  rintro e w1 ⟨rfl,f1⟩
  go_wp2
  go_ret
  exact⟨rfl,F0.trans f1⟩
 ·have q:(k==0)=false:=by simpa using hk
  rw[q,Bool.false_and] at hE
  subst hE
  clear hk
  go_enter Tryz.func107,Tryz.ntmps107
  go_wp2
  go_ret
  exact⟨rfl,F0⟩
theorem zhs(x:Itm)(k:Int)(v:Value)(w:World)(B:Nat)(hs:x.Small)(hB:B≤w.heap.size)(h:z0q w B v x) :
  Calls prog 272 #[v,.int .i64 k] w fun e w'=>e=.returned (.int .i64 (z02 k x))∧Fr [] w w':=by
 have NO:=hid (fun W (hf:Fr [] w W)=>z6i x v W B hs (Nat.le_trans hB hf.size) (h.fr hf hB (by simp)))
 have CK:=hid (fun W (hf:Fr [] w W)=>z6r x v W B hs (Nat.le_trans hB hf.size) (h.fr hf hB (by simp)))
 obtain⟨A1,c1,A2,c2,A3,c3,rfl,h1,h2,h3⟩:=h
 have F0:Fr [] w (w.alloc (.cells #[.int .i64 x.kind,.string x.text,.slice A1 x.list.length c1,.slice A2 x.pairs.length c2,.slice A3 x.scores.length c3] 43)):=(Fr.refl [] w).alloc _
 have V0:=hid (show Whole (w.alloc (.cells #[.int .i64 x.kind,.string x.text,.slice A1 x.list.length c1,.slice A2 x.pairs.length c2,.slice A3 x.scores.length c3] 43)) w.heap.size 43 [.int .i64 x.kind,.string x.text,.slice A1 x.list.length c1,.slice A2 x.pairs.length c2,.slice A3 x.scores.length c3] from Whole.new w _ _)
 have hE:z02 k x=if z0o x=true then 0 else if z0d x=0 then (if x.kind=k then 0 else 7) else z0d x:=rfl
 clear h1 h2 h3 hs
 generalize z02 k x=r at *
 generalize z0o x=b at *
 generalize z0d x=c at *
 generalize x.list.length=n1 at *
 generalize x.pairs.length=n2 at *
 generalize x.scores.length=n3 at *
 generalize x.kind=j at *
 obtain⟨d0,d1,d2,d3,d4⟩:=five V0.out
 cases b
 ·rw[if_neg (by decide)] at hE
  by_cases hc:c=0
  ·subst hc
   rw[if_pos rfl] at hE
   by_cases hj:j=k
   ·subst hj
    rw[if_pos rfl] at hE
    subst hE
    have q:(j != j)=false:=by simp
    go_enter Tryz.func272,Tryz.ntmps272
    go_wp2_with fail
    refine(NO.out _ F0).mono ?_
    rintro e w1 ⟨rfl,f1⟩
    have F1:=F0.trans f1
    have V1:=hid (V0.out.fr f1 (by simp))
    clear d0 d1 d2 d3 d4
    obtain⟨d0,d1,d2,d3,d4⟩:=five V1.out
    go_wp2_with fail
    refine(CK.out _ F1).mono ?_
    rintro e w2 ⟨rfl,f2⟩
    have V2:=hid (V1.out.fr f2 (by simp))
    clear d0 d1 d2 d3 d4
    obtain⟨d0,d1,d2,d3,d4⟩:=five V2.out
    go_wp2
    go_ret
    exact⟨rfl,F1.trans f2⟩
   ·rw[if_neg hj] at hE
    subst hE
    have q:(j != k)=true:=by simpa using hj
    clear hj
    go_enter Tryz.func272,Tryz.ntmps272
    go_wp2_with fail
    refine(NO.out _ F0).mono ?_
    rintro e w1 ⟨rfl,f1⟩
    have F1:=F0.trans f1
    have V1:=hid (V0.out.fr f1 (by simp))
    clear d0 d1 d2 d3 d4
    obtain⟨d0,d1,d2,d3,d4⟩:=five V1.out
    go_wp2_with fail
    refine(CK.out _ F1).mono ?_
    rintro e w2 ⟨rfl,f2⟩
    have V2:=hid (V1.out.fr f2 (by simp))
    clear d0 d1 d2 d3 d4
    obtain⟨d0,d1,d2,d3,d4⟩:=five V2.out
    go_wp2
    go_ret
    exact⟨rfl,F1.trans f2⟩
  ·rw[if_neg hc] at hE
   subst hE
   have q:(r != 0)=true:=by simpa using hc
   clear hc
   go_enter Tryz.func272,Tryz.ntmps272
   go_wp2_with fail
   refine(NO.out _ F0).mono ?_
   rintro e w1 ⟨rfl,f1⟩
   have F1:=F0.trans f1
   have V1:=hid (V0.out.fr f1 (by simp))
   clear d0 d1 d2 d3 d4
   obtain⟨d0,d1,d2,d3,d4⟩:=five V1.out
   go_wp2_with fail
   refine(CK.out _ F1).mono ?_
   rintro e w2 ⟨rfl,f2⟩
   go_wp2
   go_ret
   exact⟨rfl,F1.trans f2⟩
 ·rw[if_pos rfl] at hE
  subst hE
  go_enter Tryz.func272,Tryz.ntmps272
  go_wp2_with fail
  refine(NO.out _ F0).mono ?_
  rintro e w1 ⟨rfl,f1⟩
  go_wp2
  go_ret
  exact⟨rfl,F0.trans f1⟩
theorem z7r(x:Itm):z0o x=(x.kind==0&&(x.text.size==0&&many x==0)):=by
 unfold z0o
 by_cases hk:x.kind=0
 ·rw[hk]
  unfold z6g many
  rw[hk]
  generalize x.text.size=a
  generalize x.list.length=n1
  generalize x.pairs.length=n2
  generalize x.scores.length=n3
  rw[Bool.eq_iff_iff]
  simp
  omega
 ·have q:(x.kind==0)=false:=by simpa using hk
  rw[q,Bool.false_and,Bool.false_and]
theorem zex(x:Itm)(v:Value)(w:World)(B:Nat)(hs:x.Small)(hB:B≤w.heap.size)(h:z0q w B v x) :
  Calls prog 75 #[v] w fun e w'=>e=.returned (.bool (z0o x))∧Fr [] w w':=by
 obtain⟨A1,c1,A2,c2,A3,c3,rfl,h1,h2,h3⟩:=h
 have F0:Fr [] w (w.alloc (.cells #[.int .i64 x.kind,.string x.text,.slice A1 x.list.length c1,.slice A2 x.pairs.length c2,.slice A3 x.scores.length c3] 43)):=(Fr.refl [] w).alloc _
 have hE:=z7r x
 rw[show(many x==0)=(x.list.length+x.pairs.length+x.scores.length==0) from rfl] at hE
 have s1:=hs.list
 have s2:=hs.pairs
 have s3:=hs.scores
 clear h1 h2 h3 hs
 generalize z0o x=r at *
 generalize x.list.length=n1 at *
 generalize x.pairs.length=n2 at *
 generalize x.scores.length=n3 at *
 generalize x.text=t at *
 generalize x.kind=k at *
 by_cases hk:k=0
 ·subst hk
  by_cases ht:t.size=0
  ·obtain rfl:=nilOf ht
   by_cases hm:n1+n2+n3=0
   ·obtain rfl:n1=0:=by omega
    obtain rfl:n2=0:=by omega
    obtain rfl:n3=0:=by omega
    obtain rfl:r=true:=hE
    clear hm ht
    go_enter Tryz.func75,Tryz.ntmps75
    go_wp2
    go_ret
    exact⟨rfl,F0⟩
   ·have hr:r=false:=by rw[hE];simp;omega
    subst hr
    have q:((n1:Int)+(n2:Int)+(n3:Int)==0)=false:=by simp;omega
    have q2:¬((n1:Int)+(n2:Int)+(n3:Int)=0):=by omega
    clear hE hm ht
    go_enter Tryz.func75,Tryz.ntmps75
    go_wp2
    go_ret
    exact⟨rfl,F0⟩
  ·obtain⟨yT1,yT2⟩:=neNil ht
   have yT3:(t.toList==[])=false:=by simpa using yT1
   have hr:r=false:=by rw[hE,beq_eq_false_iff_ne.2 ht];rfl
   subst hr
   clear hE ht
   go_enter Tryz.func75,Tryz.ntmps75
   go_wp2
   go_ret
   exact⟨rfl,F0⟩
 ·have q:(k==0)=false:=by simpa using hk
  rw[q,Bool.false_and] at hE
  subst hE
  clear hk
  go_enter Tryz.func75,Tryz.ntmps75
  go_wp2
  go_ret
  exact⟨rfl,F0⟩
theorem z49{w wr:World}{o:Nat}(h:Fr [] w wr)(ho:w.heap.size≤o)(a b c d e:Value):Fr [] w (zr4 wr o a b c d e):=
 ((((h.setCell (p:=⟨o,0,none⟩) (.inr ho) _).setCell (p:=⟨o,1,none⟩) (.inr ho) _).setCell (p:=⟨o,2,none⟩) (.inr ho) _).setCell (p:=⟨o,3,none⟩) (.inr ho) _).setCell (p:=⟨o,4,none⟩) (.inr ho) _
def zf5(l:List ByteArray):Itm:=⟨2,⟨#[]⟩,l,[],[]⟩
def z13(l:List ByteArray):Int:=if l.length=0 then 1 else if l.any z40=true then 2 else 0
end Go.Proofs.YtamgdmiopinidaaGreatDoor
namespace Go.Proofs.YtamgdmiopinidaaGreatDoor
open Lib (hid)
open Tryz (prog)
structure AsOk(k:Int)(x:Itm):Prop where
 kind:x.kind=0∨x.kind=k
 le24:many x≤24
 text:x.text.size≤60
 texts:∀s∈x.list,s.size≤60
 fields:∀p∈x.pairs,p.1.size≤60∧p.2.size≤60
 members:∀p∈x.scores,z0m p.1=true∧p.2.size≤60
 bare:z6g x=true
 none:x.kind=0→many x=0
 some:x.kind≠0→z0d x=0
theorem z18{k:Int}{x:Itm}(h:z02 k x=0):AsOk k x:=by
 unfold z02 at h
 by_cases hn:z0o x=true
 ·unfold z0o at hn
  rw[Bool.and_eq_true] at hn
  obtain⟨h1,h2⟩:=hn
  have hk:x.kind=0:=by simpa using h1
  have hb:=h2
  unfold z6g at hb
  rw[hk] at hb
  simp at hb
  obtain⟨⟨⟨e1,e2⟩,e3⟩,e4⟩:=hb
  have e2:x.list=[]:=by simpa using e2
  have e3:x.pairs=[]:=by simpa using e3
  have e4:x.scores=[]:=by simpa using e4
  have e1:x.text.size=0:=by
   first|exact e1|(rw[e1];rfl)
  exact⟨.inl hk,by unfold many;rw[e2,e3,e4];simp,by omega,by rw[e2];simp,by rw[e3];simp,by rw[e4];simp,h2,fun _=>by unfold many;rw[e2,e3,e4];simp,fun hn=>absurd hk hn⟩
 ·rw[if_neg hn] at h
  by_cases hc:z0d x=0
  ·rw[if_pos hc] at h
   have r:=z4h hc
   by_cases hk:x.kind=k
   ·exact⟨.inr hk,r.many,r.text,r.texts,r.fields,r.members,r.bare,fun h0=>by have:=r.kind;omega,fun _=>hc⟩
   ·rw[if_neg hk] at h;cases h
  ·rw[if_neg hc] at h;exact absurd h hc
def z5s(n:Nat)(f t:Int):Nat:=
 let f':=if f < 0 then max 0 (f+n) else f
 let t':=min (if t < 0 then t+n else t) ((n:Int) - 1)
 if f' > t' then 0 else f'.toNat
def z5t(n:Nat)(f t:Int):Nat:=
 let f':=if f < 0 then max 0 (f+n) else f
 let t':=min (if t < 0 then t+n else t) ((n:Int) - 1)
 if f' > t' then 0 else (t'+1).toNat
theorem z5y(n:Nat)(f t:Int):z5s n f t≤z5t n f t∧z5t n f t≤n:=by
 unfold z5s z5t
 simp only
 by_cases h:(if f < 0 then max 0 (f+n) else f) > min (if t < 0 then t+n else t) ((n:Int) - 1)
 ·rw[if_pos h,if_pos h];omega
 ·rw[if_neg h,if_neg h]
  have:0≤(if f < 0 then max 0 (f+(n:Int)) else f):=by split <;> omega
  omega
def z29{α:Type}(l:List α)(f t:Int):List α:=(l.take (z5t l.length f t)).drop (z5s l.length f t)
def z14(x:Itm)(l:List ByteArray):Int:=if z02 2 x≠0 then z02 2 x else if z13 l≠0 then z13 l else if 24 < x.list.length+l.length then 2 else 0
def z79(x:Itm)(left:Bool)(l:List ByteArray):List ByteArray:=if left then l.reverse++x.list else x.list++l
def z1u(x:Itm):Int:=if z02 2 x≠0 then z02 2 x else if x.kind=0 then 5 else 0
def zr1(x:Itm)(left:Bool):List ByteArray:=if left then x.list.drop 1 else x.list.take (x.list.length - 1)
def zwx(x:Itm)(left:Bool):ByteArray:=x.list.getD (if left then 0 else x.list.length - 1) ⟨#[]⟩
def zm2(x:Itm)(s:ByteArray):List ByteArray:=x.list.filter fun y=>!decide (y=s)
def ofL(l:List ByteArray):Itm:=if l.length=0 then z2r 0 else zf5 l
def z8p(x:Itm)(left:Bool)(l:List ByteArray):Itm:=if z14 x l=0 then ofL (z79 x left l) else z2r 0
def zbe(x:Itm)(left:Bool)(l:List ByteArray):Int:=if z14 x l=0 then (z79 x left l).length else 0
def zdu(x:Itm)(left:Bool):Itm:=if z1u x=0 then ofL (zr1 x left) else z2r 0
def zr3(x:Itm)(left:Bool):ByteArray:=if z1u x=0 then zwx x left else ⟨#[]⟩
def zmz(x:Itm)(s:ByteArray):Itm:=if z02 2 x=0 then ofL (zm2 x s) else z2r 0
def zud(x:Itm)(s:ByteArray):Int:=if z02 2 x=0 then (x.list.length:Int) - (zm2 x s).length else 0
theorem z64{l:List ByteArray}(h:z13 l=0):∀s∈l,s.size≤60:=by
 unfold z13 at h
 by_cases h0:l.length=0
 ·rw[if_pos h0] at h;cases h
 ·rw[if_neg h0] at h
  by_cases h1:l.any z40=true
  ·rw[if_pos h1] at h;cases h
  ·intro s hs
   rw[Bool.not_eq_true,List.any_eq_false] at h1
   have:=h1 s hs
   unfold z40 at this
   simpa using this
theorem zfn{x:Itm}{left:Bool}{l:List ByteArray}{s:ByteArray}(h:s∈z79 x left l):s∈x.list∨s∈l:=by
 unfold z79 at h
 cases left
 ·simpa using h
 ·simpa[or_comm] using h
theorem z4e(x:Itm)(left:Bool)(l:List ByteArray):(z79 x left l).length=x.list.length+l.length:=by
 unfold z79
 cases left
 ·simp
 ·simp;omega
theorem z2j{α:Type}(l:List α)(f t:Int):(z29 l f t).length=z5t l.length f t - z5s l.length f t:=by
 unfold z29
 have:=z5y l.length f t
 rw[List.length_drop,List.length_take]
 omega
theorem z6y{α:Type}{l:List α}{f t:Int}{s:α}(h:s∈z29 l f t):s∈l:=List.mem_of_mem_take (List.mem_of_mem_drop h)
end Go.Proofs.YtamgdmiopinidaaGreatDoor
namespace Go.Proofs.YtamgdmiopinidaaGreatDoor
open Lib (hid)
open Tryz (prog)
open Go.RowKit
theorem tup2{a b c d:Int}(h1:a=b)(h2:c=d):Ending.returned (.tuple #[.int .i64 a,.int .i64 c])=.returned (.tuple #[.int .i64 b,.int .i64 d]):=by rw[h1,h2]
theorem zx0(a b:Int)(h:0≤a):((if a > b then 0 else a.toNat:Nat):Int)=if a > b then 0 else a:=by split <;> omega
theorem zxr(a b:Int)(h:0≤a):((if a > b then 0 else (b+1).toNat:Nat):Int)=if a > b then 0 else b+1:=by split <;> omega
theorem zfa(n:Nat)(f t:Int)(w:World)(hn:n≤281474976710656)(hf:-9223372036854775808≤f∧f≤9223372036854775807)(ht:-9223372036854775808≤t∧t≤9223372036854775807) :
  Calls prog 222 #[.int .i64 n,.int .i64 f,.int .i64 t] w fun e w'=>e=.returned (.tuple #[.int .i64 (z5s n f t:Nat),.int .i64 (z5t n f t:Nat)])∧w=w':=by
 have SA:=hid (show(z5s n f t:Int)=if (if f < 0 then max 0 (f+n) else f) > min (if t < 0 then t+n else t) ((n:Int) - 1) then 0 else (if f < 0 then max 0 (f+n) else f) from zx0 _ _ (by split <;> omega))
 have SB:=hid (show(z5t n f t:Int)=if (if f < 0 then max 0 (f+n) else f) > min (if t < 0 then t+n else t) ((n:Int) - 1) then 0 else min (if t < 0 then t+n else t) ((n:Int) - 1)+1 from zxr _ _ (by split <;> omega))
 obtain⟨hf1,hf2⟩:=hf
 obtain⟨ht1,ht2⟩:=ht
 by_cases h1:f < 0 <;> by_cases h2:t < 0
 all_goals
  go_enter Tryz.func222,Tryz.ntmps222
  go_wp2
  all_goals
   go_ret2
   refine⟨tup2 ?_ ?_,rfl⟩
   ·rw[SA.out]
    (repeat' split) <;> omega
   ·rw[SB.out]
    (repeat' split) <;> omega
structure BX(w:World)(cs:List Value)(wr:World):Prop where
 b:Whole wr w.heap.size 43 cs
 f:Fr [] w wr
theorem BX.new(w:World)(a b c d e:Value):BX w [a,b,c,d,e] (w.alloc (.cells #[a,b,c,d,e] 43)):=⟨Whole.new w _ _,(Fr.refl [] w).alloc _⟩
theorem BX.go{w wr w1:World}{cs:List Value}(h:BX w cs wr)(k:Fr [] wr w1):BX w cs w1:=⟨h.b.fr k (by simp),h.f.trans k⟩
structure BO(w:World)(n:Nat)(cs:List Value)(wr:World):Prop where
 b:Whole wr w.heap.size 43 cs
 o:Whole wr (w.heap.size+n) 43 [.int .i64 0,.string ⟨#[]⟩,.slice none 0 0,.slice none 0 0,.slice none 0 0]
 f:Fr [] w wr
theorem BO.new(w:World)(a b c d e:Value):BO w 1 [a,b,c,d,e] ((w.alloc (.cells #[a,b,c,d,e] 43)).alloc (.cells #[.int .i64 0,.string ⟨#[]⟩,.slice none 0 0,.slice none 0 0,.slice none 0 0] 43)):=
 ⟨(Whole.new w _ _).alloc _,by
  have:=Whole.new (w.alloc (.cells #[a,b,c,d,e] 43)) 43 [.int .i64 0,.string ⟨#[]⟩,.slice none 0 0,.slice none 0 0,.slice none 0 0]
  simpa using this,((Fr.refl [] w).alloc _).alloc _⟩
theorem BO.new2(w:World)(a b c d e s:Value):BO w 2 [a,b,c,d,e] (((w.alloc (.cells #[a,b,c,d,e] 43)).alloc (.cells #[s] 9)).alloc (.cells #[.int .i64 0,.string ⟨#[]⟩,.slice none 0 0,.slice none 0 0,.slice none 0 0] 43)):=
 ⟨((Whole.new w _ _).alloc _).alloc _,by
  have:=Whole.new ((w.alloc (.cells #[a,b,c,d,e] 43)).alloc (.cells #[s] 9)) 43 [.int .i64 0,.string ⟨#[]⟩,.slice none 0 0,.slice none 0 0,.slice none 0 0]
  simpa using this,(((Fr.refl [] w).alloc _).alloc _).alloc _⟩
theorem BO.newL(w:World)(a b c d e s:Value):BO w 2 [a,b,c,d,e] (((w.alloc (.cells #[a,b,c,d,e] 43)).alloc (.cells #[s] 24)).alloc (.cells #[.int .i64 0,.string ⟨#[]⟩,.slice none 0 0,.slice none 0 0,.slice none 0 0] 43)):=
 ⟨((Whole.new w _ _).alloc _).alloc _,by
  have:=Whole.new ((w.alloc (.cells #[a,b,c,d,e] 43)).alloc (.cells #[s] 24)) 43 [.int .i64 0,.string ⟨#[]⟩,.slice none 0 0,.slice none 0 0,.slice none 0 0]
  simpa using this,(((Fr.refl [] w).alloc _).alloc _).alloc _⟩
theorem BO.go{w wr w1:World}{n:Nat}{cs:List Value}(h:BO w n cs wr)(k:Fr [] wr w1):BO w n cs w1:=⟨h.b.fr k (by simp),h.o.fr k (by simp),h.f.trans k⟩
theorem BO.step{w wr w1:World}{n:Nat}{cs:List Value}{S:List Nat}(h:BO w n cs wr)(k:Fr S wr w1)(hS:∀g,g∈S→w.heap.size+n < g):BO w n cs w1:=
 ⟨h.b.fr k (fun hm=>by have:=hS _ hm;omega),h.o.fr k (fun hm=>by have:=hS _ hm;omega),h.f.step k (fun g hg=>.inr (by have:=hS g hg;omega))⟩
theorem BO.alloc{w wr:World}{n:Nat}{cs:List Value}(h:BO w n cs wr)(o:Obj):BO w n cs (wr.alloc o):=h.go ((Fr.refl [] wr).alloc o)
theorem BO.end5{w wr:World}{n:Nat}{cs:List Value}(h:BO w n cs wr)(a b c d e:Value):Fr [] w (zr4 wr (w.heap.size+n) a b c d e):=z49 h.f (by omega) _ _ _ _ _
theorem BO.lt{w wr:World}{n:Nat}{cs:List Value}(h:BO w n cs wr):w.heap.size+n < wr.heap.size:=h.o.lt
theorem z0l.form{w:World}{base:Nat}{v:Value}{x:Itm}(h:z0l w base v x):∃A1 c1 A2 c2 A3 c3,v=.agg #[.int .i64 x.kind,.string x.text,.slice A1 x.list.length c1,.slice A2 x.pairs.length c2,.slice A3 x.scores.length c3]:=by
 obtain⟨v1,v2,v3,rfl,o1,o2,o3⟩:=h
 obtain⟨A1,c1,rfl⟩:=z7j (z0t o1)
 obtain⟨A2,c2,rfl⟩:=z7j (z0t o2)
 obtain⟨A3,c3,rfl⟩:=z7j (z0t o3)
 exact⟨A1,c1,A2,c2,A3,c3,rfl⟩
theorem z0q.form{w:World}{B:Nat}{v:Value}{x:Itm}(h:z0q w B v x):∃A1 c1 A2 c2 A3 c3,v=.agg #[.int .i64 x.kind,.string x.text,.slice A1 x.list.length c1,.slice A2 x.pairs.length c2,.slice A3 x.scores.length c3]:=by
 obtain⟨A1,c1,A2,c2,A3,c3,rfl,_⟩:=h
 exact⟨A1,c1,A2,c2,A3,c3,rfl⟩
theorem z0x{w:World}{base e size n:Nat}{v:Value}{xs:List Value}(h:w.ownsRow base e size v n xs){p:Addr}(hp:p.block < base)(u:Value):(w.setCell p u).ownsRow base e size v n xs:=
 z22 u h (fun he=>by have:=(h.lt _ he).1;omega)
theorem z54{w:World}{base e size n o:Nat}{v:Value}{xs:List Value}(h:w.ownsRow base e size v n xs)(ho:o < base)(a b c d f:Value):(zr4 w o a b c d f).ownsRow base e size v n xs:=
 z0x (p:=⟨o,4,none⟩) (z0x (p:=⟨o,3,none⟩) (z0x (p:=⟨o,2,none⟩) (z0x (p:=⟨o,1,none⟩) (z0x (p:=⟨o,0,none⟩) h ho _) ho _) ho _) ho _) ho _
theorem z1q{w:World}{base o:Nat}{v:Value}{x:Itm}(h:z0l w base v x)(ho:o < base)(a b c d e:Value):z0l (zr4 w o a b c d e) base v x:=by
 obtain⟨v1,v2,v3,rfl,o1,o2,o3⟩:=h
 exact⟨_,_,_,rfl,z54 o1 ho _ _ _ _ _,z54 o2 ho _ _ _ _ _,z54 o3 ho _ _ _ _ _⟩
theorem z0l.go{w w':World}{base:Nat}{v:Value}{x:Itm}(h:z0l w base v x)(hf:Fr [] w w'):z0l w' base v x:=by
 obtain⟨v1,v2,v3,rfl,o1,o2,o3⟩:=h
 exact⟨_,_,_,rfl,z0n o1 hf (by simp),z0n o2 hf (by simp),z0n o3 hf (by simp)⟩
theorem z0l.less{w:World}{base base':Nat}{v:Value}{x:Itm}(h:z0l w base v x)(hb:base'≤base):z0l w base' v x:=by
 obtain⟨v1,v2,v3,rfl,o1,o2,o3⟩:=h
 exact⟨_,_,_,rfl,z1d o1 hb,z1d o2 hb,z1d o3 hb⟩
section
variable {w0 wr w1:World} {bl:List (Nat×List Value)} {its:List (Value×Itm)} {rs:List (Nat×Value×Nat×List Value)}
theorem zld{w:World}{g:Nat}{a b c d e a' b' c' d' e':Value}(h:Whole w g 43 [a,b,c,d,e]):Whole (zr4 w g a' b' c' d' e') g 43 [a',b',c',d',e']:=
 ((((h.set_ 0 a').set_ 1 b').set_ 2 c').set_ 3 d').set_ 4 e'
end
def z4k(k code:Int)(y:Itm)(w:World)(e:Ending)(w':World):Prop:=∃u,e=.returned (.tuple #[u,.int .i64 k,.int .i64 code])∧z0l w' w.heap.size u y∧Fr [] w w'
def OwnI(base:Nat)(x:Itm)(w:World)(e:Ending)(w':World):Prop:=∃u,e=.returned u∧z0l w' base u x∧Fr [] w w'
def zu3(s:ByteArray)(code:Int)(w:World)(e:Ending)(w':World):Prop:=e=.returned (.tuple #[.string s,.int .i64 code])∧Fr [] w w'
theorem addS(a b:ByteArray)(hs:a.size+b.size≤9223372036854775807)(W:World):(Op.stringOp .add a b).run prog W=.ok (.string (a++b)) W:=
 run_string_add_sum W a b hs
def z27(s:ByteArray):Itm:=⟨1,s,[],[],[]⟩
theorem z0l.text(w:World)(base:Nat)(s:ByteArray):z0l w base (.agg #[.int .i64 1,.string s,.slice none 0 0,.slice none 0 0,.slice none 0 0]) (z27 s):=
 ⟨_,_,_,rfl,World.ownsRow_nil _ _ _ _,⟨rfl,.inl ⟨rfl,rfl⟩⟩,⟨rfl,.inl ⟨rfl,rfl⟩⟩⟩
theorem z8r{s:ByteArray}(h:s.size≤281474976710656):(z27 s).Small:=
 ⟨⟨by show -9223372036854775808≤(1:Int);omega,by show(1:Int)≤9223372036854775807;omega⟩,h,by show(0:Nat)≤_;omega,by show(0:Nat)≤_;omega,by show(0:Nat)≤_;omega,fun s hs=>absurd hs (by simp[z27]),fun s hs=>absurd hs (by simp[z27]),fun s hs=>absurd hs (by simp[z27])⟩
def z3e(x:Itm)(s:ByteArray):Int:=if z02 1 x≠0 then z02 1 x else if 60 < x.text.size+s.size then 2 else 0
def apY(x:Itm)(s:ByteArray):Itm:=if z3e x s=0 then z27 (x.text++s) else z2r 0
def apN(x:Itm)(s:ByteArray):Int:=if z3e x s=0 then ((x.text.size+s.size:Nat):Int) else 0
def lnN(x:Itm):Int:=if z02 1 x=0 then (x.text.size:Int) else 0
def rgS(x:Itm)(f t:Int):ByteArray:=if z02 1 x=0 then x.text.extract (z5s x.text.size f t) (z5t x.text.size f t) else ⟨#[]⟩
def zxg(n code:Int)(w:World)(e:Ending)(w':World):Prop:=e=.returned (.tuple #[.int .i64 n,.int .i64 code])∧Fr [] w w'
theorem zeo(s:ByteArray)(f t:Int):(s.extract (z5s s.size f t) (z5t s.size f t)).data.toList=z29 s.data.toList f t:=by
 have:=z5y s.size f t
 have e:s.data.toList.length=s.size:=by simp
 unfold z29
 rw[e]
 simp only[ByteArray.data_extract,Array.toList_extract,List.extract_eq_take_drop]
 rw[List.take_drop]
 congr 2
 omega
theorem z86(x:Itm)(v:Value)(w:World)(B:Nat)(hs:x.Small)(hB:B≤w.heap.size)(h:z0q w B v x) :
  Calls prog 221 #[v] w fun e w'=>e=.returned (.int .i64 (z02 1 x))∧Fr [] w w':=by
 have M:=hid (fun W (hf:Fr [] w W)=>zhs x 1 v W B hs (Nat.le_trans hB hf.size) (h.fr hf hB (by simp)))
 obtain⟨A1,c1,A2,c2,A3,c3,rfl,h1,h2,h3⟩:=h
 have F1:Fr [] w (w.alloc (.cells #[.int .i64 x.kind,.string x.text,.slice A1 x.list.length c1,.slice A2 x.pairs.length c2,.slice A3 x.scores.length c3] 43)):=(Fr.refl [] w).alloc _
 go_enter Tryz.func221,Tryz.ntmps221
 go_wp2_with fail
 refine(M.out _ F1).mono ?_
 rintro e w1 ⟨rfl,f1⟩
 go_wp2
 go_ret
 exact⟨rfl,F1.trans f1⟩
theorem zfl(s:ByteArray)(w:World) :
  Calls prog 168 #[.string s] w fun e w'=>e=.returned (.agg #[.int .i64 1,.string s,.slice none 0 0,.slice none 0 0,.slice none 0 0])∧Fr [] w w':=by
 have F1:Fr [] w (w.alloc (.cells #[.int .i64 0,.string ⟨#[]⟩,.slice none 0 0,.slice none 0 0,.slice none 0 0] 43)):=(Fr.refl [] w).alloc _
 have R2:=hid (show Whole (w.alloc (.cells #[.int .i64 0,.string ⟨#[]⟩,.slice none 0 0,.slice none 0 0,.slice none 0 0] 43)) w.heap.size 43 [.int .i64 0,.string ⟨#[]⟩,.slice none 0 0,.slice none 0 0,.slice none 0 0] from Whole.new w _ _)
 obtain⟨a0,a1,a2,a3,a4⟩:=five R2.out
 obtain⟨b0,b2,b3,b4,b5⟩:=z10 R2.out
 go_enter Tryz.func168,Tryz.ntmps168
 go_wp2
 refine bodyPost_ret (v:=.agg #[.int .i64 1,.string s,.slice none 0 0,.slice none 0 0,.slice none 0 0]) (by simp[results,Tryz.results168,go_sem,a0,a1,a2,a3,a4]) rfl ?_
 exact⟨rfl,(Fr.refl [] w).alloc _⟩
theorem zit(x:Itm)(v:Value)(s:ByteArray)(w:World)(B:Nat)(hs:x.Small)(hB:B≤w.heap.size)(h:z0q w B v x)(hq:s.size≤281474976710656) :
  Calls prog 169 #[v,.string s] w (z4k (apN x s) (z3e x s) (apY x s) w):=by
 have RD:=hid (fun W (hf:Fr [] w W)=>z86 x v W B hs (Nat.le_trans hB hf.size) (h.fr hf hB (by simp)))
 obtain⟨A1,c1,A2,c2,A3,c3,rfl,h1,h2,h3⟩:=h
 have D0:=hid (BO.new w (.int .i64 x.kind) (.string x.text) (.slice A1 x.list.length c1) (.slice A2 x.pairs.length c2) (.slice A3 x.scores.length c3))
 obtain⟨d0,d1,d2,d3,d4⟩:=five D0.out.b
 have OK:=hid (fun(h:z02 1 x=0)=>(z18 h).text)
 have hz:=hs.text
 clear h1 h2 h3 hs
 have EC:=hid (show z3e x s=if z02 1 x≠0 then z02 1 x else if 60 < x.text.size+s.size then 2 else 0 from rfl)
 have EY:=hid (show apY x s=if z3e x s=0 then z27 (x.text++s) else z2r 0 from rfl)
 have EN:=hid (show apN x s=if z3e x s=0 then ((x.text.size+s.size:Nat):Int) else 0 from rfl)
 have AD:=hid (addS x.text s (by omega))
 have SZ:=hid (show(x.text++s).size=x.text.size+s.size from by simp)
 by_cases ha:z02 1 x=0
 ·rw[ha] at RD
  by_cases hc:60 < x.text.size+s.size
  ·have E:=hid (show z3e x s=2 from by rw[EC.out,if_neg (by simpa using ha),if_pos hc])
   have e1:apY x s=z2r 0:=by rw[EY.out,E.out];rfl
   have e2:apN x s=0:=by rw[EN.out,E.out];rfl
   rw[e1,e2,E.out]
   have q:(x.text.size:Int)+(s.size:Int) > 60:=by omega
   clear e1 e2 E EC EY EN OK ha hc
   go_enter Tryz.func169,Tryz.ntmps169
   go_wp2_with fail
   refine(RD.out _ D0.out.f).mono ?_
   rintro e w1 ⟨rfl,f1⟩
   have D1:=hid (D0.out.go f1)
   clear d0 d1 d2 d3 d4
   obtain⟨d0,d1,d2,d3,d4⟩:=five D1.out.b
   obtain⟨a0,a1,a2,a3,a4⟩:=five D1.out.o
   obtain⟨b0,b2,b3,b4,b5⟩:=z10 D1.out.o
   go_wp2
   refine bodyPost_ret (v:=.tuple #[.agg #[.int .i64 0,.string ⟨#[]⟩,.slice none 0 0,.slice none 0 0,.slice none 0 0],.int .i64 0,.int .i64 2]) (by simp[results,Tryz.results169,go_sem,a0,a1,a2,a3,a4]) rfl ?_
   exact⟨_,rfl,z0l.nothing _ _,D1.out.end5 _ _ _ _ _⟩
  ·have E:=hid (show z3e x s=0 from by rw[EC.out,if_neg (by simpa using ha),if_neg hc])
   have e1:apY x s=z27 (x.text++s):=by rw[EY.out,E.out];rfl
   have e2:apN x s=((x.text.size+s.size:Nat):Int):=by rw[EN.out,E.out];rfl
   rw[e1,e2,E.out]
   have q:¬((x.text.size:Int)+(s.size:Int) > 60):=by omega
   have ADo:=AD.out
   have SZo:=SZ.out
   clear e1 e2 E EC EY EN OK ha hc AD SZ
   go_enter Tryz.func169,Tryz.ntmps169
   go_wp2_with fail
   refine(RD.out _ D0.out.f).mono ?_
   rintro e w1 ⟨rfl,f1⟩
   have D1:=hid (D0.out.go f1)
   clear d0 d1 d2 d3 d4
   obtain⟨d0,d1,d2,d3,d4⟩:=five D1.out.b
   generalize x.text++s=y at *
   go_wp2_with fail
   refine(zfl y _).mono ?_
   rintro e w2 ⟨rfl,f2⟩
   have D2:=hid ((D1.out.go f2).alloc (.cells #[.int .i64 1,.string y,.slice none 0 0,.slice none 0 0,.slice none 0 0] 43))
   have V2:=hid (Whole.new w2 43 [.int .i64 1,.string y,.slice none 0 0,.slice none 0 0,.slice none 0 0])
   clear d0 d1 d2 d3 d4
   obtain⟨d0,d1,d2,d3,d4⟩:=five V2.out
   obtain⟨a0,a1,a2,a3,a4⟩:=five D2.out.o
   obtain⟨b0,b2,b3,b4,b5⟩:=z10 D2.out.o
   have hz2:=(D1.out.go f2).lt
   have n0:¬(w.heap.size+1=w2.heap.size):=by omega
   have n1:¬(w2.heap.size=w.heap.size+1):=by omega
   clear hz2
   go_wp2_with fail
   go_region_held3 (fun wx=>wx.cell? ⟨w2.heap.size,0,none⟩=some (.int .i64 1)∧wx.cell? ⟨w2.heap.size,1,none⟩=some (.string y)∧wx.cell? ⟨w2.heap.size,2,none⟩=some (.slice none 0 0)∧wx.cell? ⟨w2.heap.size,3,none⟩=some (.slice none 0 0)∧wx.cell? ⟨w2.heap.size,4,none⟩=some (.slice none 0 0)) (go_keep) (first|fail)
   go_wp2
   refine bodyPost_ret (v:=.tuple #[.agg #[.int .i64 1,.string y,.slice none 0 0,.slice none 0 0,.slice none 0 0],.int .i64 ((x.text.size:Int)+(s.size:Int)),.int .i64 0]) (by simp[results,Tryz.results169,go_sem,a0,a1,a2,a3,a4,SZo]) rfl ?_
   exact⟨_,rfl,z0l.text _ _ _,(D2.out.end5 _ _ _ _ _).drew⟩
 ·have E:=hid (show z3e x s=z02 1 x from by rw[EC.out,if_pos ha])
  have e1:apY x s=z2r 0:=by rw[EY.out,E.out,if_neg ha]
  have e2:apN x s=0:=by rw[EN.out,E.out,if_neg ha]
  rw[e1,e2,E.out]
  have q:(z02 1 x != 0)=true:=by simpa using ha
  have q':(z02 1 x==0)=false:=by simpa using ha
  clear e1 e2 E EC EY EN OK ha
  generalize z02 1 x=r at *
  go_enter Tryz.func169,Tryz.ntmps169
  go_wp2_with fail
  refine(RD.out _ D0.out.f).mono ?_
  rintro e w1 ⟨rfl,f1⟩
  have D1:=hid (D0.out.go f1)
  clear d0 d1 d2 d3 d4
  obtain⟨d0,d1,d2,d3,d4⟩:=five D1.out.b
  obtain⟨a0,a1,a2,a3,a4⟩:=five D1.out.o
  obtain⟨b0,b2,b3,b4,b5⟩:=z10 D1.out.o
  go_wp2
  refine bodyPost_ret (v:=.tuple #[.agg #[.int .i64 0,.string ⟨#[]⟩,.slice none 0 0,.slice none 0 0,.slice none 0 0],.int .i64 0,.int .i64 r]) (by simp[results,Tryz.results169,go_sem,a0,a1,a2,a3,a4]) rfl ?_
  exact⟨_,rfl,z0l.nothing _ _,D1.out.end5 _ _ _ _ _⟩
theorem zrc(x:Itm)(v:Value)(w:World)(B:Nat)(hs:x.Small)(hB:B≤w.heap.size)(h:z0q w B v x) :
  Calls prog 172 #[v] w (zxg (lnN x) (z02 1 x) w):=by
 have RD:=hid (fun W (hf:Fr [] w W)=>z86 x v W B hs (Nat.le_trans hB hf.size) (h.fr hf hB (by simp)))
 obtain⟨A1,c1,A2,c2,A3,c3,rfl,h1,h2,h3⟩:=h
 have D0:=hid (BX.new w (.int .i64 x.kind) (.string x.text) (.slice A1 x.list.length c1) (.slice A2 x.pairs.length c2) (.slice A3 x.scores.length c3))
 obtain⟨d0,d1,d2,d3,d4⟩:=five D0.out.b
 have OK:=hid (fun(h:z02 1 x=0)=>(z18 h).text)
 have hz:=hs.text
 clear h1 h2 h3 hs
 have EN:=hid (show lnN x=if z02 1 x=0 then (x.text.size:Int) else 0 from rfl)
 by_cases ha:z02 1 x=0
 ·rw[if_pos ha] at EN
  rw[ha] at RD
  rw[EN.out,ha]
  clear EN ha OK
  go_enter Tryz.func172,Tryz.ntmps172
  go_wp2_with fail
  refine(RD.out _ D0.out.f).mono ?_
  rintro e w1 ⟨rfl,f1⟩
  have D1:=hid (D0.out.go f1)
  clear d0 d1 d2 d3 d4
  obtain⟨d0,d1,d2,d3,d4⟩:=five D1.out.b
  go_wp2
  go_ret2
  exact⟨rfl,D1.out.f⟩
 ·rw[if_neg ha] at EN
  rw[EN.out]
  have q:(z02 1 x != 0)=true:=by simpa using ha
  clear EN ha OK
  generalize z02 1 x=r at *
  go_enter Tryz.func172,Tryz.ntmps172
  go_wp2_with fail
  refine(RD.out _ D0.out.f).mono ?_
  rintro e w1 ⟨rfl,f1⟩
  have D1:=hid (D0.out.go f1)
  clear d0 d1 d2 d3 d4
  obtain⟨d0,d1,d2,d3,d4⟩:=five D1.out.b
  go_wp2
  go_ret2
  exact⟨rfl,D1.out.f⟩
theorem ze6(x:Itm)(v:Value)(f t:Int)(w:World)(B:Nat)(hs:x.Small)(hB:B≤w.heap.size)(h:z0q w B v x)(hf:-9223372036854775808≤f∧f≤9223372036854775807)(ht:-9223372036854775808≤t∧t≤9223372036854775807) :
  Calls prog 164 #[v,.int .i64 f,.int .i64 t] w (zu3 (rgS x f t) (z02 1 x) w):=by
 have RD:=hid (fun W (hf:Fr [] w W)=>z86 x v W B hs (Nat.le_trans hB hf.size) (h.fr hf hB (by simp)))
 obtain⟨A1,c1,A2,c2,A3,c3,rfl,h1,h2,h3⟩:=h
 have D0:=hid (BX.new w (.int .i64 x.kind) (.string x.text) (.slice A1 x.list.length c1) (.slice A2 x.pairs.length c2) (.slice A3 x.scores.length c3))
 obtain⟨d0,d1,d2,d3,d4⟩:=five D0.out.b
 have OK:=hid (fun(h:z02 1 x=0)=>(z18 h).text)
 have hz:=hs.text
 clear h1 h2 h3 hs
 have EN:=hid (show rgS x f t=if z02 1 x=0 then x.text.extract (z5s x.text.size f t) (z5t x.text.size f t) else ⟨#[]⟩ from rfl)
 have SP:=hid (fun W=>zfa x.text.size f t W hz hf ht)
 obtain⟨l1,l2⟩:=z5y x.text.size f t
 clear hf ht
 by_cases ha:z02 1 x=0
 ·rw[if_pos ha] at EN
  rw[ha] at RD
  rw[EN.out,ha]
  clear EN ha OK
  generalize z5s x.text.size f t=a at *
  generalize z5t x.text.size f t=b at *
  go_enter Tryz.func164,Tryz.ntmps164
  go_wp2_with fail
  refine(RD.out _ D0.out.f).mono ?_
  rintro e w1 ⟨rfl,f1⟩
  have D1:=hid (D0.out.go f1)
  clear d0 d1 d2 d3 d4
  obtain⟨d0,d1,d2,d3,d4⟩:=five D1.out.b
  go_wp2_with fail
  refine(SP.out _).mono ?_
  rintro e w2 ⟨rfl,rfl⟩
  go_wp2
  go_ret2
  exact⟨rfl,D1.out.f⟩
 ·rw[if_neg ha] at EN
  rw[EN.out]
  have q:(z02 1 x != 0)=true:=by simpa using ha
  clear EN ha OK SP l1 l2
  generalize z02 1 x=r at *
  go_enter Tryz.func164,Tryz.ntmps164
  go_wp2_with fail
  refine(RD.out _ D0.out.f).mono ?_
  rintro e w1 ⟨rfl,f1⟩
  have D1:=hid (D0.out.go f1)
  clear d0 d1 d2 d3 d4
  obtain⟨d0,d1,d2,d3,d4⟩:=five D1.out.b
  go_wp2
  go_ret2
  exact⟨rfl,D1.out.f⟩
attribute [local go_sem] z1k
end Go.Proofs.YtamgdmiopinidaaGreatDoor
