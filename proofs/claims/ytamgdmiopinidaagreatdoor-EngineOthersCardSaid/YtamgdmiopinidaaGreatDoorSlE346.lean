/- Contracts that the proof of E3 uses. No condition beyond those in each theorem. -/
import Derived.Test.YtamgdmiopinidaaGreatDoorSlE344
set_option linter.unusedVariables false
set_option linter.unusedSimpArgs false
set_option maxHeartbeats 8000000
set_option maxRecDepth 100000
namespace Go.Proofs.YtamgdmiopinidaaGreatDoor
open Lib (hid)
open Go.Proofs.Tryz (prog)
open Go.RowKit
theorem ze8(l:List ByteArray)(s:ByteArray)(A:Option Addr)(c B:Nat)(w:World)(hl:l.length≤281474976710656)(hB:B≤w.heap.size)(h:Sl w B 1 (.slice A l.length c) l.length (z03 l)) :
  Calls prog 16 #[.slice A l.length c,.string s] w fun e w'=>e=.returned (.bool (z4z l s))∧w=w':=by
 have HS:=hid h
 clear h
 go_enter Tryz.func16,Tryz.ntmps16
 go_wp2
 go_loopg [5] l.length (fun g i wr=>∃(k:Nat),g=l.length - k∧k≤l.length∧i=.int .i64 k∧(∀(j:Nat) t,j < k→l[j]? = some t→t≠s)∧w=wr)
 case atStart=>exact⟨0,rfl,Nat.zero_le _,rfl,fun j t hj=>absurd hj (Nat.not_lt_zero _),rfl⟩
 case round=>
  obtain⟨k,rfl,hk,rfl,hno,rfl⟩:=hrel
  by_cases hlt:k < l.length
  ·obtain⟨b,off,rfl,hb,hc,hm,hcell⟩:=HS.out.at_ (by omega)
   obtain⟨t,ht⟩:∃t,l[k]? = some t:=⟨_,List.getElem?_eq_getElem hlt⟩
   have hc1:w.cell? ⟨b,off+k,none⟩=some (.string t):=hcell k _ (z15 l k t ht)
   by_cases hq:t=s
   ·have E:=hid (show z4z l s=true from z2h.2 (hq ▸ List.mem_of_getElem? ht))
    have q:(t.toList==s.toList)=true:=by have:=eqB t s;rw[decide_eq_true hq] at this;exact this
    clear hno hcell ht hq
    go_wp2
    go_ret
    rw[E.out]
    exact⟨rfl,rfl⟩
   ·have q:(t.toList==s.toList)=false:=neqB' hq
    have N:=hid (fun j t' (hj:j < k+1) (ht':l[j]? = some t')=>(show t'≠s by
     rcases Nat.lt_or_ge j k with h|h
     ·exact hno j t' h ht'
     ·have e:j=k:=by omega
      subst e
      rw[ht] at ht'
      cases ht'
      exact hq))
    clear hno hcell ht hq
    go_wp2
    go_roundg (l.length - (k+1))
    case measure=>omega
    case rel=>exact⟨k+1,rfl,by omega,by go_num,N.out,rfl⟩
  ·have E:=hid (show z4z l s=false from zuk (fun hm=>by
    obtain⟨j,hj⟩:=List.getElem?_of_mem hm
    exact hno j s (by have:=(List.getElem?_eq_some_iff.1 hj).1;omega) hj rfl))
   clear hno
   go_wp2
   go_ret
   rw[E.out]
   exact⟨rfl,rfl⟩
structure OthI(l:List Ent)(now:Int)(m:List ByteArray)(a:List Ent)(r:Rep)(ec:Int):Prop where
 none:ec≠0→a=[]
 stay:ec=0→∀e∈l,z4z m e.key=false→z1r e.til now=false→z00 a now e.key=e
 came:ec=0→∀e∈a,z4z m e.key=false→z1r e.til now=false→decide ((z00 l now e.key).item.kind≠0)=true
 small:∀e∈l,e.Small
 le:a.length≤16
theorem othI{l:List Ent}{now:Int}{m:List ByteArray}(hs:∀e∈l,e.Small):OthI l now m (doS l now m) (doV l now m) (doE l now):=by
 have hin:∀s,z4z m s=false→s∉m:=fun s h hm=>by rw[z2h.2 hm] at h;cases h
 refine⟨fun h=>?_,fun h e he h1 h2=>?_,fun h e he h1 h2=>?_,hs,?_⟩
 ·unfold doS;rw[if_neg h]
 ·unfold doS
  rw[if_pos h]
  exact zpb (zb6 h).1 he (hin _ h1) h2
 ·unfold doS at he
  rw[if_pos h] at he
  exact decide_eq_true (zs5 (zb6 h).1 (zb6 h).2 he (hin _ h1) h2)
 ·unfold doS
  split
  ·rename_i h
   exact(zcu (l:=m) (zb6 h).1 (zb6 h).2).le
  ·simp
theorem zje(l:List Ent)(v:Value)(now:Int)(s:ByteArray)(w:World)(B:Nat)(hl:l.length≤281474976710656)(hB:B≤w.heap.size)(h:z0v w B v l) :
  Calls prog 20 #[v,.int .i64 now,.string s] w fun e w'=>e=.returned (.bool (decide ((z00 l now s).item.kind≠0)))∧Fr [] w w':=by
 have LK:=hid (zd5 l v now s w B hl hB h)
 clear h
 generalize z00 l now s=e at *
 have fd1:∀(X1 X2 X3:Option Addr) (x1 x2 x3:Nat) (W:World),(Instr.field 45 (.agg #[.string e.key,.int .i64 e.item.kind,.string e.item.text,.slice X1 e.item.list.length x1,.slice X2 e.item.pairs.length x2,.slice X3 e.item.scores.length x3,.int .i64 e.til]) 1).run prog W=.ok (.agg #[.int .i64 e.item.kind,.string e.item.text,.slice X1 e.item.list.length x1,.slice X2 e.item.pairs.length x2,.slice X3 e.item.scores.length x3]) W:=fun _ _ _ _ _ _ _=>by kernel_rfl
 have fd2:∀(X1 X2 X3:Option Addr) (x1 x2 x3:Nat) (W:World),(Instr.field 43 (.agg #[.int .i64 e.item.kind,.string e.item.text,.slice X1 e.item.list.length x1,.slice X2 e.item.pairs.length x2,.slice X3 e.item.scores.length x3]) 0).run prog W=.ok (.int .i64 e.item.kind) W:=fun _ _ _ _ _ _ _=>by kernel_rfl
 go_enter Tryz.func20,Tryz.ntmps20
 go_wp2_with fail
 refine LK.out.mono ?_
 rintro e1 w1 ⟨cs,rfl,⟨X1,x1,X2,x2,X3,x3,hcs,-⟩,f1⟩
 obtain rfl:cs=#[.string e.key,.int .i64 e.item.kind,.string e.item.text,.slice X1 e.item.list.length x1,.slice X2 e.item.pairs.length x2,.slice X3 e.item.scores.length x3,.int .i64 e.til]:=by apply Array.ext';exact hcs
 have F1:=hid f1
 clear f1 hcs LK
 by_cases hk:e.item.kind=0
 ·have q1:(e.item.kind != 0)=false:=by simpa using hk
  have E:=hid (show decide (e.item.kind≠0)=false from decide_eq_false (by simpa using hk))
  clear hk
  go_wp2
  go_ret
  rw[E.out]
  exact⟨rfl,F1.out⟩
 ·have q1:(e.item.kind != 0)=true:=by simpa using hk
  have E:=hid (show decide (e.item.kind≠0)=true from decide_eq_true hk)
  clear hk
  go_wp2
  go_ret
  rw[E.out]
  exact⟨rfl,F1.out⟩
theorem zbo(l:List Ent)(A:Option Addr)(c:Nat)(now:Int)(m:List ByteArray)(A2:Option Addr)(c2:Nat)(w:World)(B:Nat)(hB:B≤w.heap.size)(h:z0v w B (.slice A l.length c) l)(hl:l.length≤281474976710656)(hs:∀e∈l,e.Small)(hm:m.length≤281474976710656)(h2:Sl w B 1 (.slice A2 m.length c2) m.length (z03 m))(hv:Vars w) :
  Calls prog 4 #[.slice A l.length c,.int .i64 now,.slice A2 m.length c2] w fun e w'=>e=.returned (.bool true)∧Fr [] w w':=by
 have S0:=hid (((LE.start hv).ents (h.more hB)).row (h2.more hB))
 have DX:=hid (fun W sv (h:z0v W W.heap.size sv l) (hv:Vars W) hL=>(show Calls prog 8 #[sv,.int .i64 now,.slice A2 m.length c2] W (DoQ (doS l now m) (doV l now m) (doE l now) W) from zc7 l sv now m A2 c2 W.heap.size W hs hl hm hv (Nat.le_refl _) h hL))
 have OI:=hid (othI (now:=now) (m:=m) hs)
 clear h h2 hs hv
 generalize doS l now m=a at *
 generalize doV l now m=r at *
 generalize doE l now=ec at *
 have HM:=hid hm
 have HL:=hid hl
 go_enter Tryz.func4,Tryz.ntmps4
 have C0:=hid (z5a _ S0.out.v)
 go_wp2_with fail
 refine C0.out.mono ?_
 rintro e w1 ⟨rfl,f1⟩
 have S1:=hid (S0.out.go f1)
 clear f1 S0 C0
 have C1:=hid (DX.out _ _ (S1.out.es _ (.head _)) S1.out.v (S1.out.rs _ (.head _)))
 go_wp2_with fail
 refine C1.out.mono ?_
 rintro e w2 ⟨u2,v2,rfl,o2,r2,f2⟩
 obtain⟨P,p,rfl⟩:=o2.form
 obtain⟨R2,t2,rfl⟩:=r2.form
 have S2:=hid ((((S1.out.go f2).ents o2.v).rep r2.v).box (.int .i64 r.kind) (.string r.text) (.int .i64 r.n) (.slice R2 r.list.length t2))
 clear o2 r2 f2 S1 C1 DX
 by_cases he:ec=0
 rotate_left
 ·have q1:(ec != 0)=true:=by simpa using he
  obtain rfl:=OI.out.none he
  clear he OI
  go_wp2
  go_ret
  exact⟨rfl,S2.out.f⟩
 subst he
 have hla:a.length≤16:=OI.out.le
 go_wp2
 go_loopg [10,11] l.length (fun g i y wr=>∃(k:Nat),g=l.length - k∧k≤l.length∧i=.int .i64 k∧LE w [] [(.slice P a.length p,a),(.slice A l.length c,l)] [] [(.slice A2 m.length c2,m)] wr)
 case atStart=>exact⟨0,rfl,Nat.zero_le _,rfl,⟨S2.out.f,S2.out.v,fun p hp=>by (cases hp),S2.out.es,fun p hp=>by (cases hp),S2.out.rs⟩⟩
 case round=>
  obtain⟨k,rfl,hk,rfl,hle⟩:=hrel
  have S:=hid hle
  clear hle
  by_cases hlt:k < l.length
  ·obtain⟨b,off,rfl,hb,hc,hmx,hat⟩:=(S.out.es _ (.tail _ (.head _))).at_ (by omega)
   obtain⟨e,he⟩:∃e,l[k]? = some e:=⟨_,List.getElem?_eq_getElem hlt⟩
   obtain⟨A1,A2',A3,c1,c2',c3,h7⟩:=hat k e he
   have H7:=hid h7
   have hem:=hid (List.mem_of_getElem? he)
   obtain⟨x0,x1,x2,x3,x4,x5,x6,-⟩:=H7.out
   clear hat h7 he
   unfold maxLen at hmx
   have IL:=hid (ze8 m e.key A2 c2 _ wr HM.out (Nat.le_refl _) (S.out.rs _ (.head _)))
   rcases hin:z4z m e.key with _|_
   rotate_left
   ·rw[hin] at IL
    clear hin
    go_wp2_with fail
    refine IL.out.mono ?_
    rintro e1 w3 ⟨rfl,rfl⟩
    go_wp2
    go_roundg (l.length - (k+1))
    case measure=>omega
    case rel=>exact⟨k+1,rfl,by omega,by go_num,S.out⟩
   ·rw[hin] at IL
    have HIN:=hid hin
    clear hin
    have IG:=hid (zal (.string e.key) (.int .i64 e.item.kind) (.string e.item.text) (.slice A1 e.item.list.length c1) (.slice A2' e.item.pairs.length c2') (.slice A3 e.item.scores.length c3) e.til now wr)
    go_wp2_with fail
    refine IL.out.mono ?_
    rintro e1 w3 ⟨rfl,rfl⟩
    go_wp2_with fail
    refine IG.out.mono ?_
    rintro e1 w3 ⟨rfl,f3⟩
    have S3:=hid (S.out.go f3)
    have H73:=hid (H7.out.fr f3 hb (Nat.le_refl _) (by simp))
    have hz3:=f3.size
    clear IG IL x0 x1 x2 x3 x4 x5 x6 f3
    rcases hg:z1r e.til now with _|_
    rotate_left
    ·clear hg
     go_wp2
     go_roundg (l.length - (k+1))
     case measure=>omega
     case rel=>exact⟨k+1,rfl,by omega,by go_num,S3.out⟩
    ·have ES:=hid (OI.out.stay rfl e hem.out HIN.out hg)
     clear hg
     have LK:=hid (zd5 a (.slice P a.length p) now e.key w3 w3.heap.size (by omega) (Nat.le_refl _) (S3.out.es _ (.head _)))
     rw[ES.out] at LK
     obtain⟨x0,x1,x2,x3,x4,x5,x6,-⟩:=H73.out
     go_wp2_with fail
     refine LK.out.mono ?_
     rintro e1 wq ⟨cs,rfl,hcE,fq⟩
     have HC:=hid hcE
     obtain⟨X1,x1',X2,x2',X3,x3',hcs,-⟩:=hcE
     obtain rfl:cs=#[.string e.key,.int .i64 e.item.kind,.string e.item.text,.slice X1 e.item.list.length x1',.slice X2 e.item.pairs.length x2',.slice X3 e.item.scores.length x3',.int .i64 e.til]:=by apply Array.ext';exact hcs
     have S4:=hid ((S3.out.go fq).alloc (.cells #[.string e.key,.int .i64 e.item.kind,.string e.item.text,.slice X1 e.item.list.length x1',.slice X2 e.item.pairs.length x2',.slice X3 e.item.scores.length x3',.int .i64 e.til] 45))
     have K4:=hid ((Fr.refl [] wq).alloc (.cells #[.string e.key,.int .i64 e.item.kind,.string e.item.text,.slice X1 e.item.list.length x1',.slice X2 e.item.pairs.length x2',.slice X3 e.item.scores.length x3',.int .i64 e.til] 45))
     have H74:=hid ((H73.out.fr fq (by omega) hz3 (by simp)).fr K4.out (by have:=fq.size;omega) (by have:=fq.size;omega) (by simp))
     have W4:=hid (Whole.new wq 45 [.string e.key,.int .i64 e.item.kind,.string e.item.text,.slice X1 e.item.list.length x1',.slice X2 e.item.pairs.length x2',.slice X3 e.item.scores.length x3',.int .i64 e.til])
     have IT:=hid ((show zdr wq w3.heap.size (z7d e X1 x1' X2 x2' X3 x3') e from HC.out).fr K4.out fq.size (by simp))
     have hbq:b < wq.heap.size:=by have:=fq.size;omega
     have hzq:=fq.size
     have hne1:¬b=wq.heap.size:=by omega
     have hne2:¬wq.heap.size=b:=by omega
     clear x0 x1 x2 x3 x4 x5 x6 fq hcs HC LK H73 H7 S S3
     generalize hW:wq.alloc (.cells #[.string e.key,.int .i64 e.item.kind,.string e.item.text,.slice X1 e.item.list.length x1',.slice X2 e.item.pairs.length x2',.slice X3 e.item.scores.length x3',.int .i64 e.til] 45)=w4 at *
     have HW:=hid hW
     clear hW
     have SI:=hid (show Calls prog 19 #[.agg #[.int .i64 e.item.kind,.string e.item.text,.slice X1 e.item.list.length x1',.slice X2 e.item.pairs.length x2',.slice X3 e.item.scores.length x3'],.agg #[.int .i64 e.item.kind,.string e.item.text,.slice A1 e.item.list.length c1,.slice A2' e.item.pairs.length c2',.slice A3 e.item.scores.length c3]] w4.drew fun e w'=>e=.returned (.bool true)∧Fr [] w4.drew w' from by
      have:=zb2 e.item e.item _ _ w4.drew w4.heap.size (OI.out.small e hem.out).item (OI.out.small e hem.out).item (Nat.le_refl _) (((IT.out.fr (Fr.refl [] _).drew (by rw[←HW.out];simp;omega) (by simp)).more (by rw[←HW.out];simp;omega)).item) ((H74.out.ent.fr (Fr.refl [] _).drew (by rw[←HW.out];simp;omega) (by simp)).more (by rw[←HW.out];simp;omega)).item
      rw[zei] at this
      exact this)
     have hz4:wr.heap.size≤w4.heap.size:=by rw[←HW.out];simp;omega
     obtain⟨x0,x1,x2,x3,x4,x5,x6,-⟩:=H74.out
     obtain⟨y0,y1,y2,y3,y4,y5,y6⟩:=seven W4.out
     go_upto_region 11 with fail
     rw[HW.out]
     go_region_held3 (fun wx=>wx.cell? ⟨b,off+k * 7,none⟩=some (.string e.key)∧wx.cell? ⟨b,off+k * 7+1,none⟩=some (.int .i64 e.item.kind)∧wx.cell? ⟨b,off+k * 7+2,none⟩=some (.string e.item.text)∧wx.cell? ⟨b,off+k * 7+3,none⟩=some (.slice A1 e.item.list.length c1)∧wx.cell? ⟨b,off+k * 7+4,none⟩=some (.slice A2' e.item.pairs.length c2')∧wx.cell? ⟨b,off+k * 7+5,none⟩=some (.slice A3 e.item.scores.length c3)∧wx.cell? ⟨b,off+k * 7+6,none⟩=some (.int .i64 e.til)∧wx.cell? ⟨wq.heap.size,0,none⟩=some (.string e.key)∧wx.cell? ⟨wq.heap.size,1,none⟩=some (.int .i64 e.item.kind)∧wx.cell? ⟨wq.heap.size,2,none⟩=some (.string e.item.text)∧wx.cell? ⟨wq.heap.size,3,none⟩=some (.slice X1 e.item.list.length x1')∧wx.cell? ⟨wq.heap.size,4,none⟩=some (.slice X2 e.item.pairs.length x2')∧wx.cell? ⟨wq.heap.size,5,none⟩=some (.slice X3 e.item.scores.length x3')∧wx.cell? ⟨wq.heap.size,6,none⟩=some (.int .i64 e.til)) (go_keep) ((go_at_call 19;refine SI.out.mono ?_;rintro e9 w5 ⟨rfl,f5⟩;have G5:=hid (z01 f5);have H75:=hid (H74.out.fr G5.out hb hz4 (by simp));have W5:=hid (W4.out.fr G5.out (by simp));clear f5 x0 x1 x2 x3 x4 x5 x6 y0 y1 y2 y3 y4 y5 y6;obtain⟨x0,x1,x2,x3,x4,x5,x6,-⟩:=H75.out;obtain⟨y0,y1,y2,y3,y4,y5,y6⟩:=seven W5.out))
     go_wp2
     go_roundg (l.length - (k+1))
     case measure=>omega
     case rel=>exact⟨k+1,rfl,by omega,by go_num,S4.out.go G5.out⟩
  ·obtain rfl:k=l.length:=by omega
   have S5:=S
   clear S
   go_wp2
   go_loopg [12] a.length (fun g i wr=>∃(k:Nat),g=a.length - k∧k≤a.length∧i=.int .i64 k∧LE w [] [(.slice P a.length p,a),(.slice A l.length c,l)] [] [(.slice A2 m.length c2,m)] wr)
   case atStart=>exact⟨0,rfl,Nat.zero_le _,rfl,S5.out⟩
   case round=>
    obtain⟨k,rfl,hk,rfl,hle⟩:=hrel
    have S:=hid hle
    clear hle
    by_cases hlt:k < a.length
    ·obtain⟨b,off,rfl,hb,hc,hmx,hat⟩:=(S.out.es _ (.head _)).at_ (by omega)
     obtain⟨e,he⟩:∃e,a[k]? = some e:=⟨_,List.getElem?_eq_getElem hlt⟩
     obtain⟨A1,A2',A3,c1,c2',c3,h7⟩:=hat k e he
     have H7:=hid h7
     have hem:=hid (List.mem_of_getElem? he)
     obtain⟨x0,x1,x2,x3,x4,x5,x6,-⟩:=H7.out
     clear hat h7 he
     unfold maxLen at hmx
     have IL:=hid (ze8 m e.key A2 c2 _ wr HM.out (Nat.le_refl _) (S.out.rs _ (.head _)))
     rcases hin:z4z m e.key with _|_
     rotate_left
     ·rw[hin] at IL
      clear hin
      go_wp2_with fail
      refine IL.out.mono ?_
      rintro e1 w3 ⟨rfl,rfl⟩
      go_wp2
      go_roundg (a.length - (k+1))
      case measure=>omega
      case rel=>exact⟨k+1,rfl,by omega,by go_num,S.out⟩
     ·rw[hin] at IL
      have HIN:=hid hin
      clear hin
      have IT:=hid (zje l (.slice A l.length c) now e.key wr _ HL.out (Nat.le_refl _) (S.out.es _ (.tail _ (.head _))))
      rcases hth:decide ((z00 l now e.key).item.kind≠0) with _|_
      rotate_left
      ·rw[hth] at IT
       clear hth
       go_wp2_with fail
       refine IL.out.mono ?_
       rintro e1 w3 ⟨rfl,rfl⟩
       go_wp2_with fail
       refine IT.out.mono ?_
       rintro e1 w3 ⟨rfl,f3⟩
       have S3:=hid (S.out.go f3)
       go_wp2
       go_roundg (a.length - (k+1))
       case measure=>omega
       case rel=>exact⟨k+1,rfl,by omega,by go_num,S3.out⟩
      ·rw[hth] at IT
       have hg:z1r e.til now=true:=by
        rcases hg:z1r e.til now with _|_
        ·rw[OI.out.came rfl e hem.out HIN.out hg] at hth;cases hth
        ·rfl
       clear hth
       go_wp2_with fail
       refine IL.out.mono ?_
       rintro e1 w3 ⟨rfl,rfl⟩
       go_wp2_with fail
       refine IT.out.mono ?_
       rintro e1 w3 ⟨rfl,f3⟩
       have S3:=hid (S.out.go f3)
       have H73:=hid (H7.out.fr f3 hb (Nat.le_refl _) (by simp))
       have IG:=hid (zal (.string e.key) (.int .i64 e.item.kind) (.string e.item.text) (.slice A1 e.item.list.length c1) (.slice A2' e.item.pairs.length c2') (.slice A3 e.item.scores.length c3) e.til now w3)
       rw[hg] at IG
       have hz3:=f3.size
       clear x0 x1 x2 x3 x4 x5 x6 f3 hg
       obtain⟨x0,x1,x2,x3,x4,x5,x6,-⟩:=H73.out
       have hb3:b < w3.heap.size:=Nat.lt_of_lt_of_le hb hz3
       go_wp2_with fail
       refine IG.out.mono ?_
       rintro e1 w4 ⟨rfl,f4⟩
       have S4:=hid (S3.out.go f4)
       go_wp2
       go_roundg (a.length - (k+1))
       case measure=>omega
       case rel=>exact⟨k+1,rfl,by omega,by go_num,S4.out⟩
    ·obtain rfl:k=a.length:=by omega
     go_wp2
     go_ret
     exact⟨rfl,S.out.f⟩
end Go.Proofs.YtamgdmiopinidaaGreatDoor
