/- Contracts; no condition but each theorem's own. -/
import Derived.Test.YtmkhmejempcimaaGreatDoorSlU5
import Derived.Deep.DeepLaidRun
import Derived.Lib.IndexMore
import Derived.Lib.LaidTab
import Derived.Stop.ErrReads
import Derived.Stop.LaidErr
import Derived.Test.YtmkhmejempcimaaGreatDoorRows
set_option linter.unusedVariables false
set_option linter.unusedSimpArgs false
set_option maxHeartbeats 8000000
set_option maxRecDepth 100000
namespace Go.Proofs.YtmkhmejempcimaaGreatDoor
open Lib (hid)
open Go.Proofs.Tryz (prog)
open Go.RowKit
theorem z8e:(prog.info? 132).map (fun i=>(i.zero,i.size,i.bytes))=some (some (.agg #[.pointer none,.slice none 0 0]),2,32):=by kernel_rfl
theorem zfj:(prog.info? 5).map (fun i=>(i.zero,i.size,i.bytes))=some (some (.int .u8 0),1,1):=by kernel_rfl
section
variable {P:Program} (w:World)
theorem zbp(base:Nat)(t u ty e:TypeId)(i:TypeInfo)(ht:P.underlying t=some (.slice e))(hu:P.underlying u=some .string)(hi:P.info? e=some i)(hz:i.zero=some (.int .u8 0))
  (hsize:i.size=1) (hby:i.bytes=1) (v:Value) (n:Nat) (xs:List Value) (hown:w.ownsRow base e 1 v n xs) (s:ByteArray)
  (h63:n+s.size≤maxLen) (hbytes:n+s.size≤140737488355328) {v':Value} {w':World} (hr:(Builtin.append_ #[t,u] ty #[v,.string s]).run P w=.ok v' w'):
  v'.ownBlock=v.ownBlock∨v'.ownBlock=some w.heap.size:=by
 have hsmall:n+s.size≤9223372036854775807:=by simp only[maxLen] at h63;omega
 have hxl:xs.length=n:=by simpa using hown.1
 rcases hown.2 with⟨rfl,rfl⟩|⟨g,cap,cur,rfl,hbg,hg,hnc,hcm,hcs,htake⟩
 ·by_cases hm:s.size=0
  ·have hf:=Lib.run_firstCells_string (P:=P) w 1 s;rw[hm] at hf;simp[Builtin.append_,run_underlying ht,run_underlying hu,sizeOf,typeInfo,hi,hsize,Builtin.lenOf,hm,hf] at hr;rw[←hr.1];exact .inl rfl
  ·rw[run_append_nil_string (P:=P) w t u ty e i (.int .u8 0) ht hu hi hz s (by omega) (by omega) (by rw[hby];omega)] at hr;cases hr;exact .inr rfl
 ·by_cases hroom:n+s.size≤cap
  ·have hcs':cur.size=cap:=by simpa using hcs
   rw[Lib.run_append_room_string (P:=P) w t u ty e i ht hu hi hsize g n cap cur hg s hroom (by omega)] at hr;cases hr;exact .inl rfl
  ·rw[Lib.run_append_grow_string (P:=P) w t u ty e i (.int .u8 0) ht hu hi hz ⟨g,0,none⟩ n cap xs (by rw[hsize];simpa using hxl) (hown.cells (g:=g) rfl) s (by omega) (by omega) (by rw[hby];exact growslice_fits (by omega) (by omega))] at hr;cases hr;exact .inr rfl
theorem z6v{ops:Array Oper}{rest:List Oper}{o:Oper}{a:Act}{Q:Exit→Act→World→Prop}(hgd:o.guard=none)(sl x:Operand)(t u:TypeId)
  (ho:o.op=.call { callee:=.builtin .append,args:=#[sl,x],argTypes:=#[t,u] })
  (base:Nat) (e:TypeId) (i:TypeInfo) (ht:P.underlying t=some (.slice e)) (hu:P.underlying u=some .string) (hi:P.info? e=some i) (hz:i.zero=some (.int .u8 0))
  (hsize:i.size=1) (hby:i.bytes=1)
  (v:Value) (n:Nat) (xs:List Value) (hs:a.eval sl=v) (hown:w.ownsRow base e 1 v n xs) (s:ByteArray) (hx:a.eval x=.string s)
  (h63:n+s.size≤maxLen) (hbytes:n+s.size≤140737488355328) (hbase:base≤w.heap.size)
  (h:∀v' w',w'.ownsRow base e 1 v' (n+s.size) (xs++Lib.strCells s)→w.grownBy w' v.ownBlock→(v'.ownBlock=v.ownBlock∨v'.ownBlock=some w.heap.size)→wpList P ops Q rest (a.put o.dst v') w'):wpList P ops Q (o :: rest) a w:=by
 refine wpList_plain hgd fun K hK=>?_;obtain⟨v',w',hr,h2,h3,h4⟩:=Lib.run_append_own_string (P:=P) w base t u o.type e i ht hu hi hz hsize hby v n xs hown s h63 hbytes hbase;have h5:=zbp w base t u o.type e i ht hu hi hz hsize hby v n xs hown s h63 hbytes hr;unfold Oper.wp execOp;simp only[ho,resolve,invoke,builtin,Sem.run_bind,Sem.run_pure,Result.andThen_ok,List.map_toArray,List.map_cons,List.map_nil,hs,hx,hr];exact hK _ _ (h v' w' h2 h3 h5)
end
theorem zkl{S:List Nat}{a b:World}(h:Fr S a b){p:Addr}(hp:p.block∈S)(n:Nat):Fr S a (b.freeze p n):=by
 unfold World.freeze;split
 ·exact h
 ·refine⟨h.os,h.tape,h.output,by simpa using h.size,fun i hi hn=>?_⟩;rw[←h.block i hi hn];have:p.block≠i:=fun e=>hn (e ▸ hp);simp[Array.getElem?_modify,this]
structure z2s(T:TypeId)(g off base:Nat)(own:Option Nat)(cs:List Value)(l:List UInt8)(w:World):Prop where
 whole:Whole w g T cs
 addr:cs[off]? = some (.pointer none)∨cs[off]? = some (.pointer (some ⟨g,off,none⟩))
 buf:∃v,cs[off+1]? = some v∧w.ownsRow base 5 1 v l.length (Lib.byteCells l)∧v.ownBlock=own
 base:base≤g
 ne:T≠5
 lies:liesAt prog prog.depth T (cs.length / prog.cellsOf T) off 132 1=true
theorem zbk{cs:List Value}{i:Nat}{v:Value}(h:cs[i]? = some v):cs.set i v=cs:=by
 obtain⟨hlt,e⟩:=List.getElem?_eq_some_iff.1 h;rw[←e];exact List.set_getElem_self hlt
theorem z97(T g off:Nat)(cs:List Value)(w:World)(hw:Whole w g T cs)(h0:cs[off]? = some (.pointer (some ⟨g,off,none⟩))):
  Calls prog 109 #[.pointer (some ⟨g,off,none⟩)] w fun e w'=>e=.returned (.tuple #[])∧w'=w:=by
 obtain⟨j,hj,_⟩:=Option.map_eq_some_iff.1 z8e;have hc:w.cell? ⟨g,off,none⟩=some (.pointer (some ⟨g,off,none⟩)):=(hw.cell off).trans h0;clear hw h0;go_enter Tryz.func109,Tryz.ntmps109;go_wp2;rw[Lib.run_neq_ptr_same w _ Tryz.underlying129 hj];go_wp2
 go_end0
 exact⟨rfl,rfl⟩
theorem z8l(T g off:Nat)(cs:List Value)(w:World)(hw:Whole w g T cs)(h0:cs[off]? = some (.pointer none))
  (hlies:liesAt prog prog.depth T (cs.length / prog.cellsOf T) off 132 1=true):
  Calls prog 109 #[.pointer (some ⟨g,off,none⟩)] w fun e w'=>e=.returned (.tuple #[])∧w'=w.setCell ⟨g,off,none⟩ (.pointer (some ⟨g,off,none⟩)):=by
 obtain⟨j,hj,hjs⟩:=Option.map_eq_some_iff.1 z8e
 have hjz:j.size≠0:=by
  have:j.size=2:=by
   injection hjs with _ h
   injection h
  omega
 have hc:w.cell? ⟨g,off,none⟩=some (.pointer none):=(hw.cell off).trans h0;have hfz:w.frozen? ⟨g,off,none⟩=false:=hw.frozen off;have hlt:off < cs.length:=(List.getElem?_eq_some_iff.1 h0).1
 have hsh:w.shape? (⟨g,off,none⟩:Addr).block=some (T,cs.length):=by
  unfold Whole at hw;simp[World.shape?,hw]
 have HS:=hid hsh;have HL:=hid hlies;have HJ:=hid hjs;clear hw h0 hsh hlies hjs;go_enter Tryz.func109,Tryz.ntmps109;go_wp2;rw[Lib.run_to_unsafe w ⟨g,off,none⟩ Tryz.underlying129 Tryz.underlying212 hj hjz HS.out hlt];simp only[Result.andThen];rw[Oper.upon_value];go_wp2;rw[run_callFunc_extern Tryz.func169 (by kernel_rfl) (by kernel_rfl) (by kernel_rfl) (e:=Extern.AbiNoEscape.same) (by kernel_rfl)];rw[Lib.run_noEscape];simp only[Result.andThen];rw[Oper.upon_value];go_wp2;rw[Lib.run_from_unsafe w ⟨g,off,none⟩ Tryz.underlying212 Tryz.underlying129 hj HS.out HL.out];simp only[Result.andThen];rw[Oper.upon_value];go_wp2
 go_end0
 exact⟨rfl,rfl⟩
theorem z6b{T g off base:Nat}{own:Option Nat}{cs:List Value}{l:List UInt8}{w:World}(h:z2s T g off base own cs l w):
  Calls prog 109 #[.pointer (some ⟨g,off,none⟩)] w fun e w'=>e=.returned (.tuple #[])∧z2s T g off base own (cs.set off (.pointer (some ⟨g,off,none⟩))) l w'∧Fr [g] w w':=by
 obtain⟨v,hv,hown,hob⟩:=h.buf;have hoff:off+1 < cs.length:=(List.getElem?_eq_some_iff.1 hv).1;rcases h.addr with h0|h0
 ·refine(z8l T g off cs w h.whole h0 h.lies).mono ?_;rintro e w' ⟨rfl,rfl⟩;have hne:=Lib.ownBlock_ne hown h.whole h.ne;exact⟨rfl,⟨h.whole.set_ off _,.inr (List.getElem?_set_self (by omega)),⟨v,by rw[List.getElem?_set_ne (by omega)];exact hv,hown.kept (row:=some g) ⟨rfl,rfl,rfl,by simp[World.setCell],fun k _ hk=>Below.heap_setCell _ _ _ _ (fun e=>hk (by simp[e]))⟩ (Or.inr hne),hob⟩,h.base,h.ne,by rw[List.length_set];exact h.lies⟩,(Fr.refl [g] w).setCell (p:=⟨g,off,none⟩) (.inl (by simp)) _⟩
 ·refine(z97 T g off cs w h.whole h0).mono ?_;rintro e w' ⟨rfl,rfl⟩;rw[zbk h0];exact⟨rfl,h,Fr.refl _ _⟩
def Wrote(T g off base:Nat)(own:Option Nat)(cs:List Value)(l:List UInt8)(w w':World):Prop:=
 ∃own' cs',z2s T g off base own' cs' l w'∧cs'.length=cs.length∧(∀i,i≠off→i≠off+1→cs'[i]? = cs[i]?)∧(own'=own∨∃k,own'=some k∧w.heap.size≤k)∧Fr (g :: own.toList) w w'
theorem Wrote.of_base{T g off base:Nat}{own:Option Nat}{cs:List Value}{l:List UInt8}{w:World}(h:z2s T g off base own cs l w):∀k,k∈g :: own.toList→base≤k:=by
 intro k hk;obtain⟨v,_,hown,hob⟩:=h.buf;rcases List.mem_cons.1 hk with rfl|hk
 ·exact h.base
 ·exact(hown.lt k (by rw[hob];simpa using hk)).1
theorem z2s.keep{T g off base:Nat}{own:Option Nat}{cs:List Value}{l:List UInt8}{w w':World}(h:z2s T g off base own cs l w)(hf:Fr (g :: own.toList) w w'){b T':Nat}{ds:List Value}(hw:Whole w b T' ds)(h1:T'≠T)(h2:T'≠5):Whole w' b T' ds:=by
 refine hw.fr hf ?_;intro hm;rcases List.mem_cons.1 hm with rfl|hm
 ·exact hw.ne_ h.whole h1 rfl
 ·obtain⟨v,_,hown,hob⟩:=h.buf;exact Lib.ownBlock_ne hown hw h2 (by rw[hob];simpa using hm)
theorem z95(l:List UInt8)(c:UInt8):Lib.byteCells (l++[c])=Lib.byteCells l++[.int .u8 c.toNat]:=by simp[Lib.byteCells]
theorem za4(l m:List UInt8):Lib.byteCells (l++m)=Lib.byteCells l++Lib.byteCells m:=by simp[Lib.byteCells]
theorem zcz(s:ByteArray):Lib.strCells s=Lib.byteCells s.data.toList:=rfl
theorem z2y{T g off base:Nat}{own:Option Nat}{cs:List Value}{l:List UInt8}(c:UInt8){w:World}(h:z2s T g off base own cs l w)(hlen:l.length+1≤140737488355328)(hB:base≤w.heap.size):
  Calls prog 72 #[.pointer (some ⟨g,off,none⟩),.int .u8 c.toNat] w fun e w'=>e=.returned .nilIface∧Wrote T g off base own cs (l++[c]) w w':=by
 obtain⟨i0,hi,hz0,hz1,hz2⟩:=info_parts zfj;have HH:=hid h;clear h;go_enter Tryz.func72,Tryz.ntmps72;go_wp2_with fail;refine(z6b HH.out).mono ?_;rintro e w1 ⟨rfl,h1,f1⟩;obtain⟨v,hv,hown,hob⟩:=h1.buf;have hn1:off+1 < cs.length:=by simpa using (List.getElem?_eq_some_iff.1 hv).1
 have c1:w1.cell? ⟨g,off+1,none⟩=some v:=(h1.whole.cell _).trans hv;have H1:=hid h1;have HO:=hid hob;have HV:=hid hv;have hsz:=f1.size;clear h1 hob hv;go_wp2_with (at_builtin;refine wpList_append_own_at _ rfl _ _ 130 rfl base 5 i0 (.int .u8 0) 1 1 Tryz.underlying130 hi hz0 hz1 hz2 rfl (by decide) _ _ _ rfl (hown.alloc _) ⟨w1.heap.size,0,none⟩ 1 1 [.int .u8 c.toNat] rfl rfl ?c1 ?c2 ?c3 ?c4 ?c5 ?_)
 case c1=>
  intro j u hj
  match j,hj with
  | 0,hj=>simp at hj;subst hj;simp[Addr.add]
 case c2=>intro u hu;simp at hu;subst hu;rfl
 case c3=>unfold maxLen;omega
 case c4=>omega
 case c5=>simp;omega
 intro v' w2 hown' hgrow _ hat;have hne:v.ownBlock≠some g:=Lib.ownBlock_ne hown H1.out.whole H1.out.ne;have W2:Whole w2 g T (cs.set off (.pointer (some ⟨g,off,none⟩))):=(H1.out.whole.alloc _).grown hgrow (fun e=>hne e.symm);have d1:w2.cell? ⟨g,off+1,none⟩=some v:=(W2.cell _).trans HV.out;have f2:w2.frozen? ⟨g,off+1,none⟩=false:=W2.frozen _
 obtain⟨g',cap,rfl⟩:∃g' cap,v'=.slice (some ⟨g',0,none⟩) (l.length+1) cap:=by
  rcases hown'.2 with⟨_,h0⟩|⟨g',cap,cur,hv,_⟩
  ·omega
  ·exact⟨g',cap,hv⟩
 have HW2:=hid W2;clear W2
 have hat':(Value.slice (some ⟨g',0,none⟩) (l.length+1) cap).ownBlock=own∨∃k,(Value.slice (some ⟨g',0,none⟩) (l.length+1) cap).ownBlock=some k∧w.heap.size≤k:=by
  rcases hat with e|e
  ·exact .inl (e.trans HO.out)
  ·exact .inr ⟨_,e,by first|omega|(simp;omega)⟩
 have HA:=hid hat';clear hat hat';go_wp2;go_ret;have hn2:=Lib.ownBlock_ne hown' HW2.out H1.out.ne;refine⟨rfl,_,_,⟨HW2.out.set_ (off+1) _,.inr ?_,⟨_,?_,?_,rfl⟩,H1.out.base,H1.out.ne,?_⟩,?_,?_,HA.out,?_⟩
 ·rw[List.getElem?_set_ne (by omega)];exact List.getElem?_set_self (by omega)
 ·rw[List.getElem?_set_self (by simp;omega)]
 ·rw[z95];have:=hown'.kept (row:=some g) (w':=w2.setCell ⟨g,off+1,none⟩ (.slice (some ⟨g',0,none⟩) (l.length+1) cap)) ⟨rfl,rfl,rfl,by simp[World.setCell],fun k _ hk=>Below.heap_setCell _ _ _ _ (fun e=>hk (by simp[e]))⟩ (Or.inr hn2);simpa using this
 ·simpa using H1.out.lies
 ·simp
 ·intro i h1 h2;rw[List.getElem?_set_ne (fun e=>h2 e.symm),List.getElem?_set_ne (fun e=>h1 e.symm)]
 ·refine Fr.setCell (p:=⟨g,off+1,none⟩) ?_ (.inl (by simp)) _;refine Fr.grown ((f1.more (T:=g :: own.toList) (by intro k hk;simp at hk;exact .inl (by simp[hk]))).alloc _) hgrow ?_;intro k hk;rw[HO.out] at hk;exact .inl (by simp[hk])
theorem z4s{T g off base:Nat}{own:Option Nat}{cs:List Value}{l:List UInt8}(s:ByteArray){w:World}(h:z2s T g off base own cs l w)(hlen:l.length+s.size≤140737488355328)(hB:base≤w.heap.size):
  Calls prog 73 #[.pointer (some ⟨g,off,none⟩),.string s] w fun e w'=>e=.returned (.tuple #[.int .i64 s.size,.nilIface])∧Wrote T g off base own cs (l++s.data.toList) w w':=by
 obtain⟨i0,hi,hz0,hz1,hz2⟩:=info_parts zfj;have HH:=hid h;clear h;go_enter Tryz.func73,Tryz.ntmps73;go_wp2_with fail;refine(z6b HH.out).mono ?_;rintro e w1 ⟨rfl,h1,f1⟩;obtain⟨v,hv,hown,hob⟩:=h1.buf;have hn1:off+1 < cs.length:=by simpa using (List.getElem?_eq_some_iff.1 hv).1
 have c1:w1.cell? ⟨g,off+1,none⟩=some v:=(h1.whole.cell _).trans hv;have H1:=hid h1;have HO:=hid hob;have HV:=hid hv;have hsz:=f1.size;clear h1 hob hv;go_wp2_with (at_builtin;refine z6v _ rfl _ _ 130 9 rfl base 5 i0 Tryz.underlying130 Tryz.underlying9 hi hz0 hz1 hz2 _ _ _ rfl hown s rfl ?c3 ?c4 ?c5 ?_)
 case c3=>unfold maxLen;omega
 case c4=>omega
 case c5=>omega
 intro v' w2 hown' hgrow hat;have hne:v.ownBlock≠some g:=Lib.ownBlock_ne hown H1.out.whole H1.out.ne;have W2:Whole w2 g T (cs.set off (.pointer (some ⟨g,off,none⟩))):=H1.out.whole.grown hgrow (fun e=>hne e.symm);have d1:w2.cell? ⟨g,off+1,none⟩=some v:=(W2.cell _).trans HV.out;have f2:w2.frozen? ⟨g,off+1,none⟩=false:=W2.frozen _
 obtain⟨ao,n',cap,rfl⟩:∃ao n' cap,v'=.slice ao n' cap:=by
  rcases hown'.2 with⟨hv,_⟩|⟨g,cap,cur,hv,_⟩
  ·exact⟨_,_,_,hv⟩
  ·exact⟨_,_,_,hv⟩
 have HW2:=hid W2;clear W2
 have hat':(Value.slice ao n' cap).ownBlock=own∨∃k,(Value.slice ao n' cap).ownBlock=some k∧w.heap.size≤k:=by
  rcases hat with e|e
  ·exact .inl (e.trans HO.out)
  ·exact .inr ⟨_,e,by omega⟩
 have HA:=hid hat';clear hat hat';go_wp2;go_ret2;have hn2:=Lib.ownBlock_ne hown' HW2.out H1.out.ne;refine⟨rfl,_,_,⟨HW2.out.set_ (off+1) _,.inr ?_,⟨_,?_,?_,rfl⟩,H1.out.base,H1.out.ne,?_⟩,?_,?_,HA.out,?_⟩
 ·rw[List.getElem?_set_ne (by omega)];exact List.getElem?_set_self (by omega)
 ·rw[List.getElem?_set_self (by simp;omega)]
 ·rw[za4,←zcz];have:=hown'.kept (row:=some g) (w':=w2.setCell ⟨g,off+1,none⟩ (.slice ao n' cap)) ⟨rfl,rfl,rfl,by simp[World.setCell],fun k _ hk=>Below.heap_setCell _ _ _ _ (fun e=>hk (by simp[e]))⟩ (Or.inr hn2);simpa using this
 ·simpa using H1.out.lies
 ·simp
 ·intro i h1 h2;rw[List.getElem?_set_ne (fun e=>h2 e.symm),List.getElem?_set_ne (fun e=>h1 e.symm)]
 ·refine Fr.setCell (p:=⟨g,off+1,none⟩) ?_ (.inl (by simp)) _;refine Fr.grown (f1.more (T:=g :: own.toList) (by intro k hk;simp at hk;exact .inl (by simp[hk]))) hgrow ?_;intro k hk;rw[HO.out] at hk;exact .inl (by simp[hk])
theorem z9l{T g off base:Nat}{own:Option Nat}{cs:List Value}{l:List UInt8}{w:World}(h:z2s T g off base own cs l w)(h0:l≠[]):
  Calls prog 74 #[.pointer (some ⟨g,off,none⟩)] w fun e w'=>e=.returned (.string ⟨l.toArray⟩)∧Fr own.toList w w':=by
 obtain⟨v,hv,hown,hob⟩:=h.buf;have hl0:l.length≠0:=by simpa using h0
 obtain⟨gb,cap,cur,rfl,hbg,hg,hnc,hcm,hcs,htake⟩:∃gb cap cur,v=.slice (some ⟨gb,0,none⟩) l.length cap∧base≤gb∧w.heap[gb]? = some (.cells cur 5 (0,0))∧l.length≤cap∧cap≤maxLen∧cur.size=cap * 1∧cur.toList.take (l.length * 1)=Lib.byteCells l:=by
  rcases hown.2 with⟨_,hz⟩|⟨gb,cap,cur,hv,r⟩
  ·exact absurd hz hl0
  ·exact⟨gb,cap,cur,hv,r⟩
 have c1:w.drew.cell? ⟨g,off+1,none⟩=some (.slice (some ⟨gb,0,none⟩) l.length cap):=(h.whole.drew.cell _).trans hv;have c2:w.cell? ⟨g,off+1,none⟩=some (.slice (some ⟨gb,0,none⟩) l.length cap):=(h.whole.cell _).trans hv
 have hSD:(Builtin.unsafeSliceData_ #[130] 165 #[.slice (some ⟨gb,0,none⟩) l.length cap]).run prog w.drew=.ok (.pointer (some ⟨gb,0,none⟩)) w.drew:=
  Lib.run_unsafeSliceData_row _ _ _ _ _ _ (by omega)
 have hUS:(Builtin.unsafeString_ #[165,3] 9 #[.pointer (some ⟨gb,0,none⟩),.int .i64 l.length]).run prog w.drew=.ok (.string ⟨l.toArray⟩) (w.drew.freeze ⟨gb,0,none⟩ l.length):=by
  refine Lib.run_unsafeString_row w.drew 165 3 9 5 Tryz.underlying165 (by kernel_rfl) gb cur.size (by have hg':w.drew.heap[gb]? = some (.cells cur 5 (0,0)):=hg;simp[World.shape?,hg']) l h0 (by omega) (by unfold maxLen at hcm;omega) ?_;intro j x hx;have:=hown.cells (g:=gb) rfl j (.int .u8 x.toNat) (by simp[Lib.byteCells,hx]);exact this
 have HO:=hid hob;clear hob h hv hown hg hcs htake h0;go_enter Tryz.func74,Tryz.ntmps74;go_wp2
 go_region
 all_goals
  go_wp2;go_ret;refine⟨rfl,?_⟩;rw[←HO.out];exact zkl (Fr.refl _ _).drew (by simp[Value.ownBlock]) _
end Go.Proofs.YtmkhmejempcimaaGreatDoor
namespace Go.Proofs.YtmkhmejempcimaaGreatDoor
open Lib (hid)
open Go.Proofs.Tryz (prog)
open Go.RowKit Go.ChangeShapes
abbrev zes:List (String×DataW Unit):=Rows.coldUnseenRow.laid
theorem star : "*" ++ "errors.errorString" = "*errors.errorString" := by decide
theorem zio(u:TypeId)(h:prog.typeName? 3 u=some "*errors.errorString"):u=276:=
 typeName_ptr_named (nm := "errors.errorString") (by rw[star];kernel_rfl) (by kernel_rfl) (by decide) u (by rw[star];exact h)
theorem zmk{W:World}(h:laidMetH prog zes W):Vars W:=by
 have h2:=laidMet.tail (laidMet.tail h);have h3:=laidMet.tail h2;have h4:=laidMet.tail h3;have t:=Lib.tabIs_of_head (P:=prog) (name := "internal/strconv.uint64pow10") (k:=.u64) (zs:=Lib.pow10Tab) (g:=3) (t:=280) (e:=249) (n:=20) (by kernel_rfl) (by kernel_rfl) (by kernel_rfl) (by kernel_rfl) (by kernel_rfl) (by kernel_rfl) h2;obtain⟨a1,s1,hv1,_⟩:=laid_sentinel h3 (g:=2) (ti:=136) (tp:=276) (te:=278) (ts:=9) (by kernel_rfl) (by kernel_rfl) Tryz.underlying136 zio Tryz.underlying276 Tryz.underlying278 rfl rfl (by kernel_rfl) (by kernel_rfl) (by kernel_rfl);obtain⟨a2,s2,hv2,_⟩:=laid_sentinel h4 (g:=1) (ti:=136) (tp:=276) (te:=278) (ts:=9) (by kernel_rfl) (by kernel_rfl) Tryz.underlying136 zio Tryz.underlying276 Tryz.underlying278 rfl rfl (by kernel_rfl) (by kernel_rfl) (by kernel_rfl);exact⟨t,⟨_,_,hv2⟩,⟨_,_,hv1⟩⟩
noncomputable def low:Nat:=(World.holding prog default ⟨#[],#[],[]⟩).heap.size
def put(h:Array Obj)(g:Nat)(cs:Array Value):Array Obj:=h.modify g fun
 | .cells _ t frozen=>.cells cs t frozen
 | o=>o
def tab32:List Int:=[0,1,28,2,29,14,24,3,30,22,20,15,25,17,4,8,31,27,13,23,21,19,16,7,26,12,18,6,11,5,10,9]
def tab64:List Int:=[0,1,56,2,57,49,28,3,61,58,42,50,38,29,17,4,62,47,59,36,45,43,51,22,53,39,33,30,24,18,12,5,63,55,48,27,60,41,37,16,46,35,44,21,52,32,23,11,54,26,40,15,34,20,31,10,25,14,19,9,13,8,7,6]
noncomputable def z4r(os:Os):World:=
 let w0:=World.holding prog os ⟨#[.cells #[.string ⟨#[118,97,108,117,101,32,111,117,116,32,111,102,32,114,97,110,103,101]⟩] 278,.cells #[.string ⟨#[105,110,118,97,108,105,100,32,115,121,110,116,97,120]⟩] 278],#[],[]⟩
 let h1:=put w0.heap 2 #[.iface 276 (.pointer (some ⟨low,0,none⟩))]
 let h2:=put h1 1 #[.iface 276 (.pointer (some ⟨low+1,0,none⟩))]
 let h3:=put h2 3 (Lib.pow10Tab.map fun z=>Value.int .u64 z).toArray
 let h4:=put h3 4 (tab32.map fun z=>Value.int .u8 z).toArray
 let h5:=put h4 5 (tab64.map fun z=>Value.int .u8 z).toArray
 { w0 with heap:=h5 }
theorem zee(os:Os)(args:Array Value):laidMet prog zes ((z4r os).forCall (fun _ _=>0) ⟨#[],args,[]⟩).memory:=
 laidMet_of_run3 8 (by kernel_rfl) (by kernel_rfl) (by kernel_rfl)
end Go.Proofs.YtmkhmejempcimaaGreatDoor
namespace Go.Proofs.YtmkhmejempcimaaGreatDoor
open Lib (hid)
open Go.Proofs.Tryz (prog)
structure Rp1 where
 kind:Int
 text:ByteArray
 n:Int
 sub:Nat
structure Rep where
 kind:Int
 text:ByteArray
 n:Int
 list:List Rp1
abbrev yRa(x:Rep)(A:Option Addr)(a:Nat):Array Value:=#[.int .i64 x.kind,.string x.text,.int .i64 x.n,.slice A x.list.length a]
abbrev yRl(x:Rep)(A:Option Addr)(a:Nat):List Value:=[.int .i64 x.kind,.string x.text,.int .i64 x.n,.slice A x.list.length a]
abbrev yRza:Array Value:=#[.int .i64 0,.string ⟨#[]⟩,.int .i64 0,.slice none 0 0]
abbrev yRzl:List Value:=[.int .i64 0,.string ⟨#[]⟩,.int .i64 0,.slice none 0 0]
abbrev yRc(w:World)(p:Nat)(x:Rep)(A:Option Addr)(a:Nat):Prop:=w.cell? ⟨p,0,none⟩=some (.int .i64 x.kind)∧w.cell? ⟨p,1,none⟩=some (.string x.text)∧w.cell? ⟨p,2,none⟩=some (.int .i64 x.n)∧w.cell? ⟨p,3,none⟩=some (.slice A x.list.length a)
end Go.Proofs.YtmkhmejempcimaaGreatDoor
namespace Go.Proofs.YtmkhmejempcimaaGreatDoor
open Lib (hid)
open Go.Proofs.Tryz (prog)
open Go.RowKit
attribute [local go_sem] z0p
def z0m(x:Itm):Bool:=x.kind==0&&z4o x
def z0a(k:Int)(x:Itm):Int:=if z0m x=true then 0 else if z08 x=0 then (if x.kind=k then 0 else 7) else z08 x
theorem z5l(x:Itm)(v:Value)(w:World)(B:Nat)(hs:x.Small)(hB:B≤w.heap.size)(h:z1m w B v x):
  Calls prog 57 #[v] w fun e w'=>e=.returned (.bool (z0m x))∧Fr [] w w':=by
 have Bq:=hid (fun W (hf:Fr [] w W)=>zff x v W B hs (h.fr hf hB (by simp)));obtain⟨A1,c1,A2,c2,A3,c3,rfl,h1,h2,h3⟩:=h;have F0:Fr [] w (w.alloc (.cells #[.int .i64 x.kind,.string x.text,.slice A1 x.list.length c1,.slice A2 x.pairs.length c2,.slice A3 x.scores.length c3] 46)):=(Fr.refl [] w).alloc _;have hE:z0m x=(x.kind==0&&z4o x):=rfl;clear h1 h2 h3 hs;generalize z0m x=r at *;generalize z4o x=b at *;generalize x.list.length=n1 at *;generalize x.pairs.length=n2 at *;generalize x.scores.length=n3 at *;generalize x.kind=k at *;by_cases hk:k=0
 ·subst hk;rw[show((0:Int)==0)=true from rfl,Bool.true_and] at hE;subst hE;go_enter Tryz.func57,Tryz.ntmps57;go_wp2_with fail;refine(Bq.out _ F0).mono ?_;rintro e w1 ⟨rfl,f1⟩;go_wp2;go_ret;exact⟨rfl,F0.trans f1⟩
 ·have q:(k==0)=false:=by simpa using hk
  rw[q,Bool.false_and] at hE;subst hE;clear hk;go_enter Tryz.func57,Tryz.ntmps57;go_wp2;go_ret;exact⟨rfl,F0⟩
theorem zps(x:Itm)(k:Int)(v:Value)(w:World)(B:Nat)(hs:x.Small)(hB:B≤w.heap.size)(h:z1m w B v x):
  Calls prog 230 #[v,.int .i64 k] w fun e w'=>e=.returned (.int .i64 (z0a k x))∧Fr [] w w':=by
 have NO:=hid (fun W (hf:Fr [] w W)=>z5l x v W B hs (Nat.le_trans hB hf.size) (h.fr hf hB (by simp)));have CK:=hid (fun W (hf:Fr [] w W)=>z30 x v W B hs (Nat.le_trans hB hf.size) (h.fr hf hB (by simp)));obtain⟨A1,c1,A2,c2,A3,c3,rfl,h1,h2,h3⟩:=h;have F0:Fr [] w (w.alloc (.cells #[.int .i64 x.kind,.string x.text,.slice A1 x.list.length c1,.slice A2 x.pairs.length c2,.slice A3 x.scores.length c3] 46)):=(Fr.refl [] w).alloc _;have V0:=hid (show Whole (w.alloc (.cells #[.int .i64 x.kind,.string x.text,.slice A1 x.list.length c1,.slice A2 x.pairs.length c2,.slice A3 x.scores.length c3] 46)) w.heap.size 46 [.int .i64 x.kind,.string x.text,.slice A1 x.list.length c1,.slice A2 x.pairs.length c2,.slice A3 x.scores.length c3] from Whole.new w _ _);have hE:z0a k x=if z0m x=true then 0 else if z08 x=0 then (if x.kind=k then 0 else 7) else z08 x:=rfl
 clear h1 h2 h3 hs;generalize z0a k x=r at *;generalize z0m x=b at *;generalize z08 x=c at *;generalize x.list.length=n1 at *;generalize x.pairs.length=n2 at *;generalize x.scores.length=n3 at *;generalize x.kind=j at *;obtain⟨d0,d1,d2,d3,d4⟩:=five V0.out;cases b
 ·rw[if_neg (by decide)] at hE;by_cases hc:c=0
  ·subst hc;rw[if_pos rfl] at hE;by_cases hj:j=k
   ·subst hj;rw[if_pos rfl] at hE;subst hE;have q:(j != j)=false:=by simp
    go_enter Tryz.func230,Tryz.ntmps230;go_wp2_with fail;refine(NO.out _ F0).mono ?_;rintro e w1 ⟨rfl,f1⟩;have F1:=F0.trans f1;have V1:=hid (V0.out.fr f1 (by simp));clear d0 d1 d2 d3 d4;obtain⟨d0,d1,d2,d3,d4⟩:=five V1.out;go_wp2_with fail;refine(CK.out _ F1).mono ?_;rintro e w2 ⟨rfl,f2⟩;have V2:=hid (V1.out.fr f2 (by simp));clear d0 d1 d2 d3 d4;obtain⟨d0,d1,d2,d3,d4⟩:=five V2.out;go_wp2;go_ret;exact⟨rfl,F1.trans f2⟩
   ·rw[if_neg hj] at hE;subst hE;have q:(j != k)=true:=by simpa using hj
    clear hj;go_enter Tryz.func230,Tryz.ntmps230;go_wp2_with fail;refine(NO.out _ F0).mono ?_;rintro e w1 ⟨rfl,f1⟩;have F1:=F0.trans f1;have V1:=hid (V0.out.fr f1 (by simp));clear d0 d1 d2 d3 d4;obtain⟨d0,d1,d2,d3,d4⟩:=five V1.out;go_wp2_with fail;refine(CK.out _ F1).mono ?_;rintro e w2 ⟨rfl,f2⟩;have V2:=hid (V1.out.fr f2 (by simp));clear d0 d1 d2 d3 d4;obtain⟨d0,d1,d2,d3,d4⟩:=five V2.out;go_wp2;go_ret;exact⟨rfl,F1.trans f2⟩
  ·rw[if_neg hc] at hE;subst hE;have q:(r != 0)=true:=by simpa using hc
   clear hc;go_enter Tryz.func230,Tryz.ntmps230;go_wp2_with fail;refine(NO.out _ F0).mono ?_;rintro e w1 ⟨rfl,f1⟩;have F1:=F0.trans f1;have V1:=hid (V0.out.fr f1 (by simp));clear d0 d1 d2 d3 d4;obtain⟨d0,d1,d2,d3,d4⟩:=five V1.out;go_wp2_with fail;refine(CK.out _ F1).mono ?_;rintro e w2 ⟨rfl,f2⟩;go_wp2;go_ret;exact⟨rfl,F1.trans f2⟩
 ·rw[if_pos rfl] at hE;subst hE;go_enter Tryz.func230,Tryz.ntmps230;go_wp2_with fail;refine(NO.out _ F0).mono ?_;rintro e w1 ⟨rfl,f1⟩;go_wp2;go_ret;exact⟨rfl,F0.trans f1⟩
theorem zby(x:Itm):z0m x=(x.kind==0&&(x.text.size==0&&many x==0)):=by
 unfold z0m;by_cases hk:x.kind=0
 ·rw[hk];unfold z4o many;rw[hk];generalize x.text.size=a;generalize x.list.length=n1;generalize x.pairs.length=n2;generalize x.scores.length=n3;rw[Bool.eq_iff_iff];simp;omega
 ·have q:(x.kind==0)=false:=by simpa using hk
  rw[q,Bool.false_and,Bool.false_and]
theorem z3o{w wr:World}{o:Nat}(h:Fr [] w wr)(ho:w.heap.size≤o)(a b c d e:Value):Fr [] w (set5 wr o a b c d e):=
 ((((h.setCell (p:=⟨o,0,none⟩) (.inr ho) _).setCell (p:=⟨o,1,none⟩) (.inr ho) _).setCell (p:=⟨o,2,none⟩) (.inr ho) _).setCell (p:=⟨o,3,none⟩) (.inr ho) _).setCell (p:=⟨o,4,none⟩) (.inr ho) _
def zd8(l:List ByteArray):Itm:=⟨2,⟨#[]⟩,l,[],[]⟩
def z19(l:List ByteArray):Int:=if l.length=0 then 1 else if l.any z2r=true then 2 else 0
end Go.Proofs.YtmkhmejempcimaaGreatDoor
