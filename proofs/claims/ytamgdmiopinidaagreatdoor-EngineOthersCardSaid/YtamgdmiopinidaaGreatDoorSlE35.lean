/- Contracts that the proof of E3 uses. No condition beyond those in each theorem. -/
import Derived.Test.YtamgdmiopinidaaGreatDoorSlE32
import Derived.Test.YtamgdmiopinidaaGreatDoorSlE34
import Derived.Shelf.LaysC
import Derived.Shelf.LaysM
import Derived.Shelf.Slices.CompactS
import Derived.Shelf.Slices.In.SortNone
import Derived.Shelf.Small.Strs
import Derived.Shelf.Sort.Plain
import Derived.Shelf.Strconv.Atoi
import Derived.Shelf.Strconv.AtoiAll
import Derived.Shelf.Strconv.AtoiErrFast
import Derived.Shelf.Strconv.AtoiFail
import Derived.Shelf.Strconv.AtoiInnerAll
import Derived.Shelf.Strconv.AtoiLong
import Derived.Shelf.Strconv.Clone
import Derived.Shelf.Strconv.ErrVarAll
import Derived.Shelf.Strconv.Itoa0
import Derived.Shelf.Strconv.Itoa1
import Derived.Shelf.Strconv.Itoa2
import Derived.Shelf.Strconv.Itoa3
import Derived.Shelf.Strconv.Lower
import Derived.Shelf.Strconv.ParseInt10
import Derived.Shelf.Strconv.ParseIntEmpty
import Derived.Shelf.Strconv.ParseUint10
import Derived.Shelf.Strconv.ParseUint10Any
import Derived.Shelf.Strconv.ParseUint10Empty
import Derived.Shelf.Strconv.RangeError
import Derived.Shelf.Strconv.SyntaxError
import Derived.Shelf.Strconv.ToError
import Derived.Shelf.Strconv.ToErrorRange
import Derived.Shelf.Strings.Cut
import Derived.Shelf.Strings.Search1
import Derived.Shelf.Strings.Search2
import Derived.Shelf.Strings.Shaped
set_option linter.unusedVariables false
set_option linter.unusedSimpArgs false
set_option maxHeartbeats 8000000
set_option maxRecDepth 100000
namespace Go.Proofs.YtamgdmiopinidaaGreatDoor
open Lib (hid)
open Tryz (prog)
open Go.RowKit
theorem z56(n:Nat)(xs:List Value)(A:Option Addr)(c:Nat)(w:World)(B:Nat)(hl:n≤1000000)(hB:B≤w.heap.size)(h:Sl w B 1 (.slice A n c) n xs)(h1:∀u∈xs,u.oneCell'=true) :
  Calls prog 142 #[.slice A n c] w (z7h 9 1 n xs w):=by
 obtain⟨i0,hi,hz0,hz1,hz2⟩:=info_parts z3o
 have q29:∀(w:World) (a:Option Addr) (n c n' c':Nat),(binOp .eql 24 (.slice a n c) (.slice none n' c')).run prog w=.ok (.bool a.isNone) w:=fun w a n c n' c'=>Lib.run_eql_slice_nil w _ _ a n c n' c' Tryz.underlying24
 cases A with
 | none=>
  obtain⟨A',c',e,hlx,hc,hm,hr⟩:=h
  cases e
  have h0:n=0:=by
   rcases Nat.eq_zero_or_pos n with h0|h0
   ·exact h0
   ·obtain⟨_,_,h,_⟩:=hr h0
    cases h
  subst h0
  obtain rfl:xs=[]:=List.eq_nil_of_length_eq_zero (by omega)
  clear hr h1
  go_enter Tryz.func142,Tryz.ntmps142
  go_wp2
  go_ret
  exact⟨_,rfl,World.ownsRow_nil _ _ _ _,Fr.refl [] w⟩
 | some ad=>
  have hO:=(World.ownsRow_lit (base:=w.heap.size) (e:=9) (size:=1) w #[] 0 (Nat.le_refl _) (Nat.zero_le _) rfl)
  have hsl:=h.fr ((Fr.refl [] w).alloc (.cells #[] 9)) hB (by simp)
  have H1:=hid h1
  have HS:=hid hsl
  clear h h1 hsl
  go_enter Tryz.func142,Tryz.ntmps142
  go_wp2_with (at_builtin;refine z0i _ rfl _ _ 24 rfl w.heap.size 9 i0 _ 1 16 Tryz.underlying24 hi hz0 hz1 hz2 rfl (by decide) _ _ _ rfl hO B _ n xs rfl HS.out H1.out ?c1 ?c2 (by simp) ?_)
  case c1=>unfold maxLen;omega
  case c2=>omega
  intro v' w2 hown' hgrow hat
  go_wp2
  go_ret
  refine⟨_,rfl,by simpa using hown',((Fr.refl [] w).alloc _).grown hgrow (fun k hk=>?_)⟩
  simp[Value.ownBlock] at hk
  subst hk
  exact .inr (Nat.le_refl _)
def zjh(g:Nat)(lb:Array Value)(p:ByteArray→Bool)(B:Nat)(w:World):Prop:=
 ∀W (x:ByteArray),FrB [] B w W→Calls prog g (#[.string x]++lb) W fun e w'=>e=.returned (.bool (p x))∧Fr [] W w'
theorem zk9(g:Nat)(lb:Array Value)(eg:∀args w,(callFunc g args).run prog w=.ok (.enter g args) w)(p:ByteArray→Bool)(D:Nat)(l:List ByteArray)(A:Option Addr)(c B:Nat)(w:World)(hp:zjh g lb p D w)(hl:l.length≤281474976710656)(hB:B≤w.heap.size)
  (hsl:Sl w B 1 (.slice A l.length c) l.length (z03 l)) :
  Calls prog 136 #[.slice A l.length c,.func (Fn.func g) #[] lb] w fun e w'=>e=.returned (.int .i64 (z3c p l))∧Fr [] w w':=by
 have HS:=hid hsl
 have HP:=hid hp
 clear hsl hp
 go_enter Tryz.func136,Tryz.ntmps136
 go_wp2
 go_loopg [5,8] l.length (fun g u i wr=>∃(k:Nat),g=l.length - k∧k≤l.length∧i=.int .i64 k∧(∀j t,j < k→l[j]? = some t→p t=false)∧Fr [] w wr)
 case atStart=>exact⟨0,rfl,Nat.zero_le _,rfl,fun j t hj=>absurd hj (Nat.not_lt_zero _),Fr.refl _ _⟩
 case round=>
  obtain⟨k,rfl,hk,rfl,hno,hf⟩:=hrel
  by_cases hlt:k < l.length
  ·obtain⟨b,off,rfl,hb,hc,hm,hcell⟩:=HS.out.at_ (by omega)
   obtain⟨s,hs⟩:∃s,l[k]? = some s:=⟨_,List.getElem?_eq_getElem hlt⟩
   have hc1:wr.cell? ⟨b,off+k,none⟩=some (.string s):=hf.cell (hcell k _ (z15 l k s hs)) (by simp)
   have L:=hid (fun W (hW:Fr [] wr W)=>HP.out W s ((hf.toB D).trans (hW.toB D)))
   have HF:=hid hf
   have F1:=hid (Fr.refl [] wr)
   by_cases hq:p s=true
   ·have E:=hid (z2q hno hs hq)
    rw[hq] at L
    clear hno hcell hs hq hf
    go_wp2_with fail
    refine(L.out _ F1.out).mono ?_
    rintro e w1 ⟨rfl,h1⟩
    go_wp2
    go_ret
    rw[E.out]
    exact⟨rfl,HF.out.trans h1⟩
   ·have hq':p s=false:=by simpa using hq
    rw[hq'] at L
    have N:=hid (fun j t (hj:j < k+1) (ht:l[j]? = some t)=>(show p t=false by
     rcases Nat.lt_or_ge j k with h|h
     ·exact hno j t h ht
     ·have e:j=k:=by omega
      subst e
      rw[hs] at ht
      cases ht
      exact hq'))
    clear hno hcell hs hq hq' hf
    go_wp2_with fail
    refine(L.out _ F1.out).mono ?_
    rintro e w1 ⟨rfl,h1⟩
    go_wp2
    go_roundg (l.length - (k+1))
    case measure=>omega
    case rel=>exact⟨k+1,rfl,by omega,rfl,N.out,HF.out.trans h1⟩
  ·have E:=hid (z39 (q:=p) (l:=l) (fun j t ht=>hno j t (by have:=(List.getElem?_eq_some_iff.1 ht).1;omega) ht))
   clear hno
   go_wp2
   go_ret
   rw[E.out]
   exact⟨rfl,hf⟩
def zd4(ys:List ByteArray)(base:Nat)(v:Value)(w:World)(e:Ending)(w':World):Prop:=
 ∃v',e=.returned v'∧w'.ownsRow base 9 1 v' ys.length (z03 ys)∧Fr (z2l v) w w'∧v'.ownBlock=v.ownBlock
theorem zy5:∀w,(zeroValue 9).run prog w=.ok (.string ⟨#[]⟩) w:=fun w=>by kernel_rfl
theorem zg6(g:Nat)(lb:Array Value)(eg:∀args w,(callFunc g args).run prog w=.ok (.enter g args) w)(p:ByteArray→Bool)(D:Nat)(l:List ByteArray)(base:Nat)(v:Value)(w:World)(hp:zjh g lb p D w)(hD:D≤base)(hl:l.length≤1000000)
  (h:w.ownsRow base 9 1 v l.length (z03 l)) :
  Calls prog 230 #[v,.func (Fn.func g) #[] lb] w (zd4 (l.filter fun x=>!p x) base v w):=by
 obtain⟨A,c,rfl,hA,hc,hm⟩:=z06 h
 have I:=hid (zk9 g lb eg p D l A c w.heap.size w hp (by omega) (Nat.le_refl _) (z0t h))
 rcases z6s p l with⟨e1,e2⟩|⟨k0,s0,e1,hk0,hK⟩
 ·rw[e1] at I
  have H:=hid h
  have E2:=hid e2
  clear h e1 e2 hp
  go_enter Tryz.func230,Tryz.ntmps230
  go_wp2_with fail
  refine I.out.mono ?_
  rintro e w1 ⟨rfl,h1⟩
  go_wp2
  go_ret
  rw[E2.out]
  exact⟨_,rfl,z0n H.out h1 (by simp),h1.up,rfl⟩
 ·rw[e1] at I
  obtain⟨gb,rfl⟩:∃gb,A=some ⟨gb,0,none⟩:=by
   rcases hA with rfl|⟨gb,rfl⟩
   ·exfalso
    rcases h.2 with⟨_,h0⟩|⟨g',cap',cur,h',_⟩
    ·omega
    ·cases h'
   ·exact⟨gb,rfl⟩
  have hgb:=(h.lt gb rfl)
  have H:=hid h
  have HP:=hid hp
  have HK:=hid hK
  have hne1:((k0:Int)==-1)=false:=beq_eq_false_iff_ne.2 (by omega)
  unfold maxLen at hm
  clear h hp hK e1 hA
  go_enter Tryz.func230,Tryz.ntmps230
  go_wp2_with fail
  refine I.out.mono ?_
  rintro e w1 ⟨rfl,h1⟩
  have HF1:=hid h1
  clear h1
  go_wp2
  go_loopg [5,6] (l.length - (k0+1)) (fun gg s5 s6 wr=>∃(i j:Nat) (d:List ByteArray),gg=l.length - j∧s5=.int .i64 i∧s6=.int .i64 j∧Kept p l d i j∧wr.ownsRow base 9 1 (.slice (some ⟨gb,0,none⟩) l.length c) l.length (z03 d)∧Fr [gb] w wr)
  case atStart=>exact⟨k0,k0+1,l,rfl,rfl,by go_num,HK.out,z0n H.out HF1.out (by simp),HF1.out.up⟩
  case round=>
   obtain⟨i,j,d,rfl,rfl,rfl,hK,hO,hF⟩:=hrel
   have HK:=hid hK
   have HO:=hid hO
   have HF:=hid hF
   have hij:=hK.lt
   have hjl:=hK.le
   have hdl:=hK.len
   have hsz:=hF.size
   clear I HF1
   by_cases hlt:j < l.length
   ·obtain⟨s,hs⟩:∃s,l[j]? = some s:=⟨_,List.getElem?_eq_getElem hlt⟩
    have hd:d[j]? = some s:=(hK.behind j (Nat.le_refl _)).trans hs
    have L:=hid (fun W (hW:Fr [] wr W)=>HP.out W s ((hF.toB D).more (T:=[]) (by intro k hk;simp at hk;subst hk;exact .inr (by omega)) |>.trans (hW.toB D)))
    have HS:=hid hs
    have x1:wr.cell? ⟨gb,j,none⟩=some (.string s):=(hO.cellAt j (by omega)).trans (z15 d j s hd)
    have F1:=hid (Fr.refl [] wr)
    clear hK hO hF hs hd
    by_cases hq:p s=true
    ·rw[hq] at L
     have HQ:=hid hq
     clear hq
     go_wp2_with fail
     refine(L.out _ F1.out).mono ?_
     rintro e w2 ⟨rfl,h2⟩
     have f2:=hid (F1.out.trans h2)
     clear h2
     go_wp2
     go_roundg (l.length - (j+1))
     case measure=>omega
     case rel=>exact⟨i,j+1,d,rfl,rfl,by go_num,HK.out.skip HS.out HQ.out,z0n HO.out f2.out (by simp),HF.out.trans f2.out.up⟩
    ·have hq':p s=false:=by simpa using hq
     rw[hq'] at L
     have HQ:=hid hq'
     clear hq hq'
     obtain⟨s',hs'⟩:∃s',d[i]? = some s':=⟨_,List.getElem?_eq_getElem (by omega)⟩
     have HS':=hid hs'
     clear hs'
     go_wp2_with fail
     refine(L.out _ F1.out).mono ?_
     rintro e w2 ⟨rfl,h2⟩
     have f2:=hid (F1.out.trans h2)
     have HO2:=hid (z0n HO.out f2.out (by simp))
     have y1:w2.cell? ⟨gb,i,none⟩=some (.string s'):=(HO2.out.cellAt i (by omega)).trans (z15 d i s' HS'.out)
     have z1:w2.frozen? ⟨gb,i,none⟩=false:=HO2.out.frozenAt i
     clear h2
     go_wp2
     go_roundg (l.length - (j+1))
     case measure=>omega
     case rel=>
      have o1:=HO2.out.stored i (.string s)
      exact⟨i+1,j+1,d.set i s,rfl,by go_num,by go_num,HK.out.keep HS.out HQ.out,by rw[zau];exact o1.1,(HF.out.trans f2.out.up).setCell (p:=⟨gb,i,none⟩) (.inl (by simp)) _⟩
   ·obtain rfl:j=l.length:=by omega
    have hdone:=hK.done
    obtain⟨cur,w0,l0,t0,hb0,_,_,hxl⟩:=z28 hO
    obtain⟨zs,hzs⟩:∃zs,zs=(Builtin.zeroCells (Value.cells (.string ⟨#[]⟩)) (l.length - i)).toList:=⟨_,rfl⟩
    have hzl:zs.length=(l.length - i) * 1:=by rw[hzs];simp[Builtin.zeroCells,Value.cells]
    have hcl:∀ty,(Builtin.clear_ #[24] ty #[.slice (some ⟨gb,i,none⟩) (l.length - i) (c - i)]).run prog wr=.ok (.tuple #[]) (wr.setCells gb (i) zs):=fun ty=>by
     have:=z3j (P:=prog) wr 24 9 ty (.string ⟨#[]⟩) Tryz.underlying24 zy5 (by intro u hu;simp[Value.cells] at hu;rcases hu with rfl|rfl <;> rfl) gb (i) (l.length - i) (c - i) (by omega) (fun t ht=>by
      exact z0k w0 (o:=i) (m:=(l.length - i) * 1) (by omega) t (by simpa[Value.cells] using ht))
     rw[←hzs] at this
     exact this
    have W1:=z16 zs (i) wr cur w0 (by omega)
    have O1:=z34 (cap:=c) (k:=1) (n:=i) (base:=base) W1 (by simp only[List.length_append,List.length_take,List.length_drop,l0,hzl];omega) hb0 (by omega) (by unfold maxLen;omega)
    rw[List.append_assoc,List.take_append_of_le_length (by rw[List.length_take];omega),List.take_take,Nat.min_eq_left (by omega)] at O1
    have e5:cur.take (i * 1)=z03 (l.filter fun x=>!p x):=by
     rw[←hdone,←zjw,←t0,List.take_take,Nat.min_eq_left (by omega)]
    have e6:i=(l.filter fun x=>!p x).length:=by rw[←hdone,List.length_take];omega
    rw[e5] at O1
    have HO1:=hid O1
    have HE:=hid e6
    have G1:=hid (z09 (g:=gb) zs (i) wr)
    have hic:i < c:=by omega
    clear hK hO hF w0 l0 t0 hb0 hxl hzs hzl W1 O1 e5 e6 hdone hdl HK HO
    go_wp2
    go_ret
    have e6:=HE.out
    refine⟨_,rfl,?_,?_,rfl⟩
    ·rw[←e6]
     exact HO1.out
    ·exact HF.out.grown G1.out (fun k hk=>by cases hk;exact .inl (by simp))
end Go.Proofs.YtamgdmiopinidaaGreatDoor
namespace Go.Proofs
open Lib (hid)
open Tryz (prog)
open Go.Shelf
def Tryz.lays137_ren:Go.Shelf.Ren:=⟨fun|137=>104|217=>140|266=>210|n=>n,fun|9=>9|5=>5|3=>3|n=>n,fun|n=>n⟩
theorem Tryz.lays137:Go.Proofs.Lays.n137 prog Tryz.lays137_ren:={
 mixed:=by kernel_rfl
 f137:=Tryz.func104.trans (congrArg some (by kernel_rfl))
 f217:=Tryz.func140.trans (congrArg some (by kernel_rfl))
 f266:=Tryz.func210.trans (congrArg some (by kernel_rfl))
 t3:=Tryz.underlying3
 a3:=Tryz.isAgg3
 z3:=Tryz.sizeOf3
 v3:=Tryz.zeroValue3
 t5:=Tryz.underlying5
 a5:=Tryz.isAgg5
 z5:=Tryz.sizeOf5
 v5:=Tryz.zeroValue5
 t9:=Tryz.underlying9
 a9:=Tryz.isAgg9
 z9:=Tryz.sizeOf9
 v9:=Tryz.zeroValue9 }
open Go.RowKit in
theorem Tryz.strings_IndexByte(s:ByteArray)(c:Int)(w:World) :
  Calls prog 104 #[.string s,.int .u8 c] w fun e w'=>e=.returned (.int .i64 (Lib.indexByte s.data.toList c.toNat.toUInt8))∧w'=w:=Any.strings_IndexByte Tryz.lays137 s c w
def Tryz.laysM171_ren:Go.Shelf.Ren:=⟨fun|171=>102|243=>139|246=>209|283=>263|284=>264|285=>265|286=>266|129=>288|317=>287|318=>289|319=>290|320=>291|337=>304|338=>305|n=>n,fun|3=>3|9=>9|2=>2|4=>4|171=>242|0=>0|53=>235|37=>119|5=>5|173=>245|212=>270|51=>271|20=>20|213=>272|46=>238|232=>290|233=>291|n=>n,fun|17=>3|18=>4|19=>5|n=>n⟩
theorem Tryz.laysM171:Go.Proofs.LaysM.n171 prog Tryz.laysM171_ren:={
 mixed:=by kernel_rfl
 f129:=Tryz.func288.trans (congrArg some (by kernel_rfl))
 f171:=Tryz.func102.trans (congrArg some (by kernel_rfl))
 f243:=Tryz.func139.trans (congrArg some (by kernel_rfl))
 f246:=Tryz.func209.trans (congrArg some (by kernel_rfl))
 f283:=Tryz.func263.trans (congrArg some (by kernel_rfl))
 f284:=Tryz.func264.trans (congrArg some (by kernel_rfl))
 f285:=Tryz.func265.trans (congrArg some (by kernel_rfl))
 f286:=Tryz.func266.trans (congrArg some (by kernel_rfl))
 f317:=Tryz.func287.trans (congrArg some (by kernel_rfl))
 f318:=Tryz.func289.trans (congrArg some (by kernel_rfl))
 f319:=Tryz.func290.trans (congrArg some (by kernel_rfl))
 f320:=Tryz.func291.trans (congrArg some (by kernel_rfl))
 f337:=Tryz.func304.trans (congrArg some (by kernel_rfl))
 f338:=Tryz.func305.trans (congrArg some (by kernel_rfl))
 t0:=Tryz.underlying0
 a0:=Tryz.isAgg0
 z0:=Tryz.sizeOf0
 v0:=Tryz.zeroValue0
 t2:=Tryz.underlying2
 a2:=Tryz.isAgg2
 z2:=Tryz.sizeOf2
 v2:=Tryz.zeroValue2
 t3:=Tryz.underlying3
 a3:=Tryz.isAgg3
 z3:=Tryz.sizeOf3
 v3:=Tryz.zeroValue3
 t4:=Tryz.underlying4
 a4:=Tryz.isAgg4
 z4:=Tryz.sizeOf4
 v4:=Tryz.zeroValue4
 t5:=Tryz.underlying5
 a5:=Tryz.isAgg5
 z5:=Tryz.sizeOf5
 v5:=Tryz.zeroValue5
 t9:=Tryz.underlying9
 a9:=Tryz.isAgg9
 z9:=Tryz.sizeOf9
 v9:=Tryz.zeroValue9
 t20:=Tryz.underlying20
 a20:=Tryz.isAgg20
 z20:=Tryz.sizeOf20
 v20:=Tryz.zeroValue20
 t37:=Tryz.underlying119
 a37:=Tryz.isAgg119
 z37:=Tryz.sizeOf119
 v37:=Tryz.zeroValue119
 t46:=Tryz.underlying238
 a46:=Tryz.isAgg238
 z46:=Tryz.sizeOf238
 v46:=Tryz.zeroValue238
 t51:=Tryz.underlying271
 a51:=Tryz.isAgg271
 z51:=Tryz.sizeOf271
 v51:=Tryz.zeroValue271
 t53:=Tryz.underlying235
 a53:=Tryz.isAgg235
 z53:=Tryz.sizeOf235
 v53:=Tryz.zeroValue235
 t171:=Tryz.underlying242
 a171:=Tryz.isAgg242
 z171:=Tryz.sizeOf242
 v171:=Tryz.zeroValue242
 t173:=Tryz.underlying245
 a173:=Tryz.isAgg245
 z173:=Tryz.sizeOf245
 v173:=Tryz.zeroValue245
 t212:=Tryz.underlying270
 a212:=Tryz.isAgg270
 z212:=Tryz.sizeOf270
 v212:=Tryz.zeroValue270
 t213:=Tryz.underlying272
 a213:=Tryz.isAgg272
 z213:=Tryz.sizeOf272
 t232:=Tryz.underlying290
 a232:=Tryz.isAgg290
 z232:=Tryz.sizeOf290
 v232:=Tryz.zeroValue290
 t233:=Tryz.underlying291
 a233:=Tryz.isAgg291
 z233:=Tryz.sizeOf291
 v233:=Tryz.zeroValue291
 g17:=by kernel_rfl
 g18:=by kernel_rfl
 g19:=by kernel_rfl
 i0:=by kernel_rfl
 i2:=by kernel_rfl
 i3:=by kernel_rfl
 i4:=by kernel_rfl
 i5:=by kernel_rfl
 i9:=by kernel_rfl
 i20:=by kernel_rfl
 i37:=by kernel_rfl
 i46:=by kernel_rfl
 i51:=by kernel_rfl
 i53:=by kernel_rfl
 i171:=by kernel_rfl
 i173:=by kernel_rfl
 i212:=by kernel_rfl
 i232:=by kernel_rfl
 i233:=by kernel_rfl
 m17:=by kernel_rfl
 m18:=by kernel_rfl
 m19:=by kernel_rfl }
open Go.RowKit Go.Sort Go.Lib in
theorem Tryz.strconv_Itoa(n:Int)(h0:-9223372036854775808≤n)(h1:n≤9223372036854775807)(w:World)(htab:Lib.TabIs prog w "internal/strconv.uint64pow10" .u64 Lib.pow10Tab) :
  Calls prog 102 #[.int .i64 n] w fun e w'=>e=.returned (.string ⟨(Lib.itoa n).toArray⟩)∧∃k os,w'=grow (w.drewN k) os:=Any.strconv_Itoa Tryz.laysM171 n h0 h1 w htab
def Tryz.laysC172_ren:Go.Shelf.Ren:=⟨fun|172=>101|244=>137|245=>138|247=>204|279=>205|280=>206|281=>207|282=>208|287=>260|316=>261|171=>102|205=>262|321=>285|322=>286|243=>139|246=>209|283=>263|284=>264|285=>265|286=>266|129=>288|317=>287|318=>289|319=>290|320=>291|337=>304|338=>305|n=>n,fun|9=>9|3=>3|75=>129|76=>130|4=>4|5=>5|167=>194|37=>119|0=>0|85=>195|2=>2|168=>197|53=>235|175=>236|46=>238|210=>240|127=>210|145=>268|143=>266|21=>21|171=>242|173=>245|212=>270|51=>271|20=>20|213=>272|232=>290|233=>291|80=>170|n=>n,fun|15=>1|16=>2|17=>3|18=>4|19=>5|n=>n⟩
theorem Tryz.laysC172:Go.Proofs.LaysC.n172 prog Tryz.laysC172_ren:={
 mixed:=by kernel_rfl
 f129:=Tryz.func288.trans (congrArg some (by kernel_rfl))
 f171:=Tryz.func102.trans (congrArg some (by kernel_rfl))
 f172:=Tryz.func101.trans (congrArg some (by kernel_rfl))
 f205:=Tryz.func262.trans (congrArg some (by kernel_rfl))
 f243:=Tryz.func139.trans (congrArg some (by kernel_rfl))
 f244:=Tryz.func137.trans (congrArg some (by kernel_rfl))
 f245:=Tryz.func138.trans (congrArg some (by kernel_rfl))
 f246:=Tryz.func209.trans (congrArg some (by kernel_rfl))
 f247:=Tryz.func204.trans (congrArg some (by kernel_rfl))
 f279:=Tryz.func205.trans (congrArg some (by kernel_rfl))
 f280:=Tryz.func206.trans (congrArg some (by kernel_rfl))
 f281:=Tryz.func207.trans (congrArg some (by kernel_rfl))
 f282:=Tryz.func208.trans (congrArg some (by kernel_rfl))
 f283:=Tryz.func263.trans (congrArg some (by kernel_rfl))
 f284:=Tryz.func264.trans (congrArg some (by kernel_rfl))
 f285:=Tryz.func265.trans (congrArg some (by kernel_rfl))
 f286:=Tryz.func266.trans (congrArg some (by kernel_rfl))
 f287:=Tryz.func260.trans (congrArg some (by kernel_rfl))
 f316:=Tryz.func261.trans (congrArg some (by kernel_rfl))
 f317:=Tryz.func287.trans (congrArg some (by kernel_rfl))
 f318:=Tryz.func289.trans (congrArg some (by kernel_rfl))
 f319:=Tryz.func290.trans (congrArg some (by kernel_rfl))
 f320:=Tryz.func291.trans (congrArg some (by kernel_rfl))
 f321:=Tryz.func285.trans (congrArg some (by kernel_rfl))
 f322:=Tryz.func286.trans (congrArg some (by kernel_rfl))
 f337:=Tryz.func304.trans (congrArg some (by kernel_rfl))
 f338:=Tryz.func305.trans (congrArg some (by kernel_rfl))
 t0:=Tryz.underlying0
 a0:=Tryz.isAgg0
 z0:=Tryz.sizeOf0
 v0:=Tryz.zeroValue0
 t2:=Tryz.underlying2
 a2:=Tryz.isAgg2
 z2:=Tryz.sizeOf2
 v2:=Tryz.zeroValue2
 t3:=Tryz.underlying3
 a3:=Tryz.isAgg3
 z3:=Tryz.sizeOf3
 v3:=Tryz.zeroValue3
 t4:=Tryz.underlying4
 a4:=Tryz.isAgg4
 z4:=Tryz.sizeOf4
 v4:=Tryz.zeroValue4
 t5:=Tryz.underlying5
 a5:=Tryz.isAgg5
 z5:=Tryz.sizeOf5
 v5:=Tryz.zeroValue5
 t9:=Tryz.underlying9
 a9:=Tryz.isAgg9
 z9:=Tryz.sizeOf9
 v9:=Tryz.zeroValue9
 t20:=Tryz.underlying20
 a20:=Tryz.isAgg20
 z20:=Tryz.sizeOf20
 v20:=Tryz.zeroValue20
 t21:=Tryz.underlying21
 a21:=Tryz.isAgg21
 z21:=Tryz.sizeOf21
 v21:=Tryz.zeroValue21
 t37:=Tryz.underlying119
 a37:=Tryz.isAgg119
 z37:=Tryz.sizeOf119
 v37:=Tryz.zeroValue119
 t46:=Tryz.underlying238
 a46:=Tryz.isAgg238
 z46:=Tryz.sizeOf238
 v46:=Tryz.zeroValue238
 t51:=Tryz.underlying271
 a51:=Tryz.isAgg271
 z51:=Tryz.sizeOf271
 v51:=Tryz.zeroValue271
 t53:=Tryz.underlying235
 a53:=Tryz.isAgg235
 z53:=Tryz.sizeOf235
 v53:=Tryz.zeroValue235
 t75:=Tryz.underlying129
 a75:=Tryz.isAgg129
 z75:=Tryz.sizeOf129
 v75:=Tryz.zeroValue129
 t76:=Tryz.underlying130
 a76:=Tryz.isAgg130
 z76:=Tryz.sizeOf130
 v76:=Tryz.zeroValue130
 t85:=Tryz.underlying195
 a85:=Tryz.isAgg195
 z85:=Tryz.sizeOf195
 v85:=Tryz.zeroValue195
 t127:=Tryz.underlying210
 a127:=Tryz.isAgg210
 z127:=Tryz.sizeOf210
 v127:=Tryz.zeroValue210
 t143:=Tryz.underlying266
 a143:=Tryz.isAgg266
 z143:=Tryz.sizeOf266
 v143:=Tryz.zeroValue266
 t145:=Tryz.underlying268
 a145:=Tryz.isAgg268
 z145:=Tryz.sizeOf268
 v145:=Tryz.zeroValue268
 t167:=Tryz.underlying194
 a167:=Tryz.isAgg194
 z167:=Tryz.sizeOf194
 v167:=Tryz.zeroValue194
 t168:=Tryz.underlying197
 a168:=Tryz.isAgg197
 z168:=Tryz.sizeOf197
 v168:=Tryz.zeroValue197
 t171:=Tryz.underlying242
 a171:=Tryz.isAgg242
 z171:=Tryz.sizeOf242
 v171:=Tryz.zeroValue242
 t173:=Tryz.underlying245
 a173:=Tryz.isAgg245
 z173:=Tryz.sizeOf245
 v173:=Tryz.zeroValue245
 t175:=Tryz.underlying236
 a175:=Tryz.isAgg236
 z175:=Tryz.sizeOf236
 v175:=Tryz.zeroValue236
 t210:=Tryz.underlying240
 a210:=Tryz.isAgg240
 z210:=Tryz.sizeOf240
 v210:=Tryz.zeroValue240
 t212:=Tryz.underlying270
 a212:=Tryz.isAgg270
 z212:=Tryz.sizeOf270
 v212:=Tryz.zeroValue270
 t213:=Tryz.underlying272
 a213:=Tryz.isAgg272
 z213:=Tryz.sizeOf272
 t232:=Tryz.underlying290
 a232:=Tryz.isAgg290
 z232:=Tryz.sizeOf290
 v232:=Tryz.zeroValue290
 t233:=Tryz.underlying291
 a233:=Tryz.isAgg291
 z233:=Tryz.sizeOf291
 v233:=Tryz.zeroValue291
 g15:=by kernel_rfl
 g16:=by kernel_rfl
 g17:=by kernel_rfl
 g18:=by kernel_rfl
 g19:=by kernel_rfl
 t80:=Tryz.underlying170
 a80:=Tryz.isAgg170
 z80:=Tryz.sizeOf170
 v80:=Tryz.zeroValue170
 i0:=by kernel_rfl
 i2:=by kernel_rfl
 i3:=by kernel_rfl
 i4:=by kernel_rfl
 i5:=by kernel_rfl
 i9:=by kernel_rfl
 i20:=by kernel_rfl
 i21:=by kernel_rfl
 i37:=by kernel_rfl
 i46:=by kernel_rfl
 i51:=by kernel_rfl
 i53:=by kernel_rfl
 i75:=by kernel_rfl
 i76:=by kernel_rfl
 i80:=by kernel_rfl
 i85:=by kernel_rfl
 i127:=by kernel_rfl
 i143:=by kernel_rfl
 i145:=by kernel_rfl
 i167:=by kernel_rfl
 i168:=by kernel_rfl
 i171:=by kernel_rfl
 i173:=by kernel_rfl
 i175:=by kernel_rfl
 i210:=by kernel_rfl
 i212:=by kernel_rfl
 i232:=by kernel_rfl
 i233:=by kernel_rfl
 m15:=by kernel_rfl
 m16:=by kernel_rfl
 m17:=by kernel_rfl
 m18:=by kernel_rfl
 m19:=by kernel_rfl
 c0:=by kernel_rfl
 c2:=by kernel_rfl
 c3:=by kernel_rfl
 c4:=by kernel_rfl
 c5:=by kernel_rfl
 c9:=by kernel_rfl
 c20:=by kernel_rfl
 c21:=by kernel_rfl
 c37:=by kernel_rfl
 c46:=by kernel_rfl
 c51:=by kernel_rfl
 c53:=by kernel_rfl
 c75:=by kernel_rfl
 c76:=by kernel_rfl
 c80:=by kernel_rfl
 c85:=by kernel_rfl
 c127:=by kernel_rfl
 c143:=by kernel_rfl
 c145:=by kernel_rfl
 c167:=by kernel_rfl
 c168:=by kernel_rfl
 c171:=by kernel_rfl
 c173:=by kernel_rfl
 c175:=by kernel_rfl
 c210:=by kernel_rfl
 c212:=by kernel_rfl
 c213:=by kernel_rfl
 c232:=by kernel_rfl
 c233:=by kernel_rfl }
open Go.RowKit in
theorem Tryz.strconv_Atoi_ok(s:ByteArray)(hmax:s.size≤9223372036854775806)(v:Int)(h:Lib.atoiAll s.data.toList=.ok v)(w:World) :
  Calls prog 101 #[.string s] w fun e w'=>e=.returned (.tuple #[.int .i64 v,.nilIface])∧(w'=w∨∃t,w'=Lib.bytesWorld w 5 t):=Any.strconv_Atoi_ok Tryz.laysC172 s hmax v h w
open Go.RowKit in
theorem Tryz.strconv_Atoi_syntax_var(s:ByteArray)(hlim:s.size≤281474976710656)(h:Lib.atoiAll s.data.toList=Lib.atoiAll [])(tp:TypeId)(p:Value)(w:World)(hvar:w.var? prog "strconv.ErrSyntax" = some #[.iface tp p]) :
  Calls prog 101 #[.string s] w fun e w'=>∃N,e=.returned (.tuple #[.int .i64 0,.iface 197 (.pointer (some ⟨N,0,none⟩))])∧w.heap.size≤N∧w'.heap[N]? = some (.cells #[.string ⟨#[65,116,111,105]⟩,.string s,.iface tp p] 240 (0,0))∧Below w.heap.size w w':=Any.strconv_Atoi_syntax_var Tryz.laysC172 s hlim h tp p w hvar
open Go.RowKit in
theorem Tryz.strconv_Atoi_range_var(s:ByteArray)(hlim:s.size≤281474976710656)(h:Lib.atoiAll s.data.toList=.range)(tp:TypeId)(p:Value)(w:World)(hvar:w.var? prog "strconv.ErrRange" = some #[.iface tp p]) :
  Calls prog 101 #[.string s] w fun e w'=>∃N,e=.returned (.tuple #[.int .i64 (Lib.atoiSat s.data.toList),.iface 197 (.pointer (some ⟨N,0,none⟩))])∧w.heap.size≤N∧w'.heap[N]? = some (.cells #[.string ⟨#[65,116,111,105]⟩,.string s,.iface tp p] 240 (0,0))∧Below w.heap.size w w':=Any.strconv_Atoi_range_var Tryz.laysC172 s hlim h tp p w hvar
def Tryz.lays190_ren:Go.Shelf.Ren:=⟨fun|190=>275|125=>299|258=>298|128=>320|129=>288|302=>312|303=>313|304=>314|305=>315|306=>316|307=>317|308=>300|309=>318|310=>319|333=>325|329=>326|330=>327|334=>328|335=>329|336=>321|344=>330|n=>n,fun|31=>24|9=>9|3=>3|46=>238|0=>0|51=>271|53=>235|4=>4|183=>283|182=>282|131=>62|5=>5|218=>294|222=>298|228=>300|229=>215|n=>n,fun|n=>n⟩
theorem Tryz.lays190:Go.Proofs.Lays.n190 prog Tryz.lays190_ren:={
 mixed:=by kernel_rfl
 f125:=Tryz.func299.trans (congrArg some (by kernel_rfl))
 f128:=Tryz.func320.trans (congrArg some (by kernel_rfl))
 f129:=Tryz.func288.trans (congrArg some (by kernel_rfl))
 f190:=Tryz.func275.trans (congrArg some (by kernel_rfl))
 f258:=Tryz.func298.trans (congrArg some (by kernel_rfl))
 f302:=Tryz.func312.trans (congrArg some (by kernel_rfl))
 f303:=Tryz.func313.trans (congrArg some (by kernel_rfl))
 f304:=Tryz.func314.trans (congrArg some (by kernel_rfl))
 f305:=Tryz.func315.trans (congrArg some (by kernel_rfl))
 f306:=Tryz.func316.trans (congrArg some (by kernel_rfl))
 f307:=Tryz.func317.trans (congrArg some (by kernel_rfl))
 f308:=Tryz.func300.trans (congrArg some (by kernel_rfl))
 f309:=Tryz.func318.trans (congrArg some (by kernel_rfl))
 f310:=Tryz.func319.trans (congrArg some (by kernel_rfl))
 f329:=Tryz.func326.trans (congrArg some (by kernel_rfl))
 f330:=Tryz.func327.trans (congrArg some (by kernel_rfl))
 f333:=Tryz.func325.trans (congrArg some (by kernel_rfl))
 f334:=Tryz.func328.trans (congrArg some (by kernel_rfl))
 f335:=Tryz.func329.trans (congrArg some (by kernel_rfl))
 f336:=Tryz.func321.trans (congrArg some (by kernel_rfl))
 f344:=Tryz.func330.trans (congrArg some (by kernel_rfl))
 t0:=Tryz.underlying0
 a0:=Tryz.isAgg0
 z0:=Tryz.sizeOf0
 v0:=Tryz.zeroValue0
 t3:=Tryz.underlying3
 a3:=Tryz.isAgg3
 z3:=Tryz.sizeOf3
 v3:=Tryz.zeroValue3
 t4:=Tryz.underlying4
 a4:=Tryz.isAgg4
 z4:=Tryz.sizeOf4
 v4:=Tryz.zeroValue4
 t5:=Tryz.underlying5
 a5:=Tryz.isAgg5
 z5:=Tryz.sizeOf5
 v5:=Tryz.zeroValue5
 t9:=Tryz.underlying9
 a9:=Tryz.isAgg9
 z9:=Tryz.sizeOf9
 v9:=Tryz.zeroValue9
 t31:=Tryz.underlying24
 a31:=Tryz.isAgg24
 z31:=Tryz.sizeOf24
 v31:=Tryz.zeroValue24
 t46:=Tryz.underlying238
 a46:=Tryz.isAgg238
 z46:=Tryz.sizeOf238
 v46:=Tryz.zeroValue238
 t51:=Tryz.underlying271
 a51:=Tryz.isAgg271
 z51:=Tryz.sizeOf271
 v51:=Tryz.zeroValue271
 t53:=Tryz.underlying235
 a53:=Tryz.isAgg235
 z53:=Tryz.sizeOf235
 v53:=Tryz.zeroValue235
 t131:=Tryz.underlying62
 a131:=Tryz.isAgg62
 z131:=Tryz.sizeOf62
 v131:=Tryz.zeroValue62
 t182:=Tryz.underlying282
 a182:=Tryz.isAgg282
 z182:=Tryz.sizeOf282
 v182:=Tryz.zeroValue282
 t183:=Tryz.underlying283
 a183:=Tryz.isAgg283
 z183:=Tryz.sizeOf283
 v183:=Tryz.zeroValue283
 t218:=Tryz.underlying294
 a218:=Tryz.isAgg294
 z218:=Tryz.sizeOf294
 v218:=Tryz.zeroValue294
 t222:=Tryz.underlying298
 a222:=Tryz.isAgg298
 z222:=Tryz.sizeOf298
 v222:=Tryz.zeroValue298
 t228:=Tryz.underlying300
 a228:=Tryz.isAgg300
 z228:=Tryz.sizeOf300
 v228:=Tryz.zeroValue300
 t229:=Tryz.underlying215
 a229:=Tryz.isAgg215
 z229:=Tryz.sizeOf215
 v229:=Tryz.zeroValue215 }
open Go.Sort Go.RowKit in
theorem Tryz.slices_Sort_string(blk off cap:Nat)(ss:List (List UInt8))(w:World)(hH:Holds encStr w blk off ss.toArray)(hblk:blk < w.heap.size)(hsz:ss.length < 4611686018427387904) :
  Calls prog 275 #[.slice (some ⟨blk,off,none⟩) ss.length cap] w fun e w'=>
   e=.returned (.tuple #[])∧∃n os,w'=grow (putRow encStr (Sort.ahead w n) blk off (ss.mergeSort fun x y=>decide (x≤y)).toArray) os:=Any.slices_Sort_string Tryz.lays190 blk off cap ss w hH hblk hsz
def Tryz.lays194_ren:Go.Shelf.Ren:=⟨fun|194=>276|n=>n,fun|31=>24|9=>9|3=>3|4=>4|0=>0|n=>n,fun|n=>n⟩
theorem Tryz.lays194:Go.Proofs.Lays.n194 prog Tryz.lays194_ren:={
 mixed:=by kernel_rfl
 f194:=Tryz.func276.trans (congrArg some (by kernel_rfl))
 t0:=Tryz.underlying0
 a0:=Tryz.isAgg0
 z0:=Tryz.sizeOf0
 v0:=Tryz.zeroValue0
 t3:=Tryz.underlying3
 a3:=Tryz.isAgg3
 z3:=Tryz.sizeOf3
 v3:=Tryz.zeroValue3
 t4:=Tryz.underlying4
 a4:=Tryz.isAgg4
 z4:=Tryz.sizeOf4
 v4:=Tryz.zeroValue4
 t9:=Tryz.underlying9
 a9:=Tryz.isAgg9
 z9:=Tryz.sizeOf9
 v9:=Tryz.zeroValue9
 t31:=Tryz.underlying24
 a31:=Tryz.isAgg24
 z31:=Tryz.sizeOf24
 v31:=Tryz.zeroValue24 }
open Go.RowKit Go.Lib Go.Sort in
theorem Tryz.slices_Compact_string(blk off cap:Nat)(zs:List (List UInt8))(w:World)(hH:Holds encStr w blk off zs.toArray)(hsz:zs.length≤9223372036854775807)(hcap:zs.length≤cap) :
  Calls prog 276 #[.slice (some ⟨blk,off,none⟩) zs.length cap] w fun e w'=>e=.returned (.slice (some ⟨blk,off,none⟩) (Lib.compact zs).length cap)∧∃q,w'=putRow encStr (Sort.ahead w q) blk off (Lib.compact zs++List.replicate (zs.length - (Lib.compact zs).length) []).toArray:=Any.slices_Compact_string Tryz.lays194 blk off cap zs w hH hsz hcap
open Go.RowKit Go.Lib Go.Sort in
theorem Tryz.slices_Compact_string_empty(a:Option Addr)(cap:Nat)(w:World) :
  Calls prog 276 #[.slice a 0 cap] w fun e w'=>e=.returned (.slice a 0 cap)∧w'=w:=Any.slices_Compact_string_empty Tryz.lays194 a cap w
open Go.RowKit Go.Sort in
theorem Tryz.slices_Sort_string_none(p:Option Addr)(cap:Nat)(w:World) :
  Calls prog 275 #[.slice p 0 cap] w fun e w'=>e=.returned (.tuple #[])∧w'=w:=Any.slices_Sort_string_none Tryz.lays190 p cap w
end Go.Proofs
