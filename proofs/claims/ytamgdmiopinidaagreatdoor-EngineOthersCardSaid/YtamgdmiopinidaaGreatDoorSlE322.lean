/- Contracts that the proof of E3 uses. No condition beyond those in each theorem. -/
import Derived.Test.YtamgdmiopinidaaGreatDoorSlE321
set_option linter.unusedVariables false
set_option linter.unusedSimpArgs false
set_option maxHeartbeats 8000000
set_option maxRecDepth 100000
namespace Go.Proofs.YtamgdmiopinidaaGreatDoor
open Lib (hid)
open Go.Proofs.Tryz (prog)
open Go.RowKit
theorem z8q{l:List ByteArray}(hl:l.length≤1000000)(ht:∀s∈l,s.size≤281474976710656):(zf5 l).Small:=
 ⟨by show -9223372036854775808≤(2:Int)∧(2:Int)≤9223372036854775807;omega,by show(⟨#[]⟩:ByteArray).size≤_;decide,by show l.length≤_;omega,by show 0≤_;omega,by show 0≤_;omega,ht,(fun p hp=>by cases hp),(fun p hp=>by cases hp)⟩
def tA:ByteArray:=⟨#[97]⟩
def tB:ByteArray:=⟨#[98]⟩
def tC:ByteArray:=⟨#[99]⟩
def tD:ByteArray:=⟨#[100]⟩
def zbg:Itm:=zf5 [tA,tB,tA]
theorem zh5:zbg.Small:=z8q (by decide) (by decide)
theorem zna(w:World):Calls prog 72 #[] w (zsv zbg w):=by
 go_enter Tryz.func72,Tryz.ntmps72
 go_wp2
 refine bodyPost_ret (v:=.agg #[.int .i64 2,.string ⟨#[]⟩,.slice (some ⟨w.heap.size+1,0,none⟩) 3 3,.slice none 0 0,.slice none 0 0]) (by simp[results,Tryz.results72,go_sem]) rfl ?_
 have hb:=heap_alloc_new (w.alloc (.cells #[.int .i64 2,.string ⟨#[]⟩,.slice (some ⟨w.heap.size+1,0,none⟩) 3 3,.slice none 0 0,.slice none 0 0] 43)) (.cells #[.string ⟨#[97]⟩,.string ⟨#[98]⟩,.string ⟨#[97]⟩] 9)
 have hz:(w.alloc (.cells #[.int .i64 2,.string ⟨#[]⟩,.slice (some ⟨w.heap.size+1,0,none⟩) 3 3,.slice none 0 0,.slice none 0 0] 43)).heap.size=w.heap.size+1:=by simp
 rw[hz] at hb
 exact⟨_,rfl,⟨_,_,_,rfl,⟨rfl,.inr ⟨w.heap.size+1,3,_,rfl,by omega,hb,Nat.le_refl _,by decide,rfl,rfl⟩⟩,⟨rfl,.inl ⟨rfl,rfl⟩⟩,⟨rfl,.inl ⟨rfl,rfl⟩⟩⟩,((Fr.refl [] w).alloc _).alloc _⟩
theorem z6z(l:List Ent)(v u:Value)(w:World)(B:Nat)(hs:∀e∈l,e.Small)(hl:l.length≤281474976710656)(hB:B≤w.heap.size)(h:z0v w B v l)(k:z0v w B u l) :
  Calls prog 21 #[v,u] w fun e w'=>e=.returned (.bool true)∧Fr [] w w':=by
 obtain⟨A,c,rfl⟩:=h.form
 obtain⟨A',c',rfl⟩:=k.form
 have HV:=hid h
 have KV:=hid k
 have HS:=hid hs
 clear h k hs
 go_enter Tryz.func21,Tryz.ntmps21
 go_wp2
 go_loopg [5] l.length (fun g i wr=>∃(k:Nat),g=l.length - k∧k≤l.length∧i=.int .i64 k∧Fr [] w wr)
 case atStart=>exact⟨0,rfl,Nat.zero_le _,rfl,Fr.refl _ _⟩
 case round=>
  obtain⟨k,rfl,hk,rfl,hf⟩:=hrel
  have HF:=hid hf
  clear hf
  by_cases hlt:k < l.length
  ·obtain⟨b,off,rfl,hb,hc,hmx,hat⟩:=HV.out.at_ (by omega)
   obtain⟨b2,off2,rfl,hb2,hc2,hmx2,hat2⟩:=KV.out.at_ (by omega)
   obtain⟨e,he⟩:∃e,l[k]? = some e:=⟨_,List.getElem?_eq_getElem hlt⟩
   obtain⟨A1,A2,A3,c1,c2,c3,h7⟩:=hat k e he
   obtain⟨B1,B2,B3,e1,e2,e3,k7⟩:=hat2 k e he
   have P7:=hid (h7.fr HF.out hb hB (by simp))
   have Q7:=hid (k7.fr HF.out hb2 hB (by simp))
   have hem:=HS.out e (List.mem_of_getElem? he)
   have SI:=hid (show Calls prog 19 #[.agg #[.int .i64 e.item.kind,.string e.item.text,.slice A1 e.item.list.length c1,.slice A2 e.item.pairs.length c2,.slice A3 e.item.scores.length c3],.agg #[.int .i64 e.item.kind,.string e.item.text,.slice B1 e.item.list.length e1,.slice B2 e.item.pairs.length e2,.slice B3 e.item.scores.length e3]] wr.drew fun e w'=>e=.returned (.bool true)∧Fr [] wr.drew w' from by
    have:=zb2 e.item e.item _ _ wr.drew B hem.item hem.item (Nat.le_trans hB HF.out.size) (P7.out.ent.fr (Fr.refl [] _).drew (Nat.le_trans hB HF.out.size) (by simp)).item (Q7.out.ent.fr (Fr.refl [] _).drew (Nat.le_trans hB HF.out.size) (by simp)).item
    rw[zei] at this
    exact this)
   obtain⟨x0,x1,x2,x3,x4,x5,x6,-⟩:=P7.out
   obtain⟨y0,y1,y2,y3,y4,y5,y6,-⟩:=Q7.out
   have q1:=zts e.key
   have q2:=q1.1
   have q3:=q1.2
   clear hat hat2 h7 k7 he hem q1
   go_wp2
   go_region_held3 (fun wx=>wx.cell? ⟨b,off+k * 7,none⟩=some (.string e.key)∧wx.cell? ⟨b,off+k * 7+1,none⟩=some (.int .i64 e.item.kind)∧wx.cell? ⟨b,off+k * 7+2,none⟩=some (.string e.item.text)∧wx.cell? ⟨b,off+k * 7+3,none⟩=some (.slice A1 e.item.list.length c1)∧wx.cell? ⟨b,off+k * 7+4,none⟩=some (.slice A2 e.item.pairs.length c2)∧wx.cell? ⟨b,off+k * 7+5,none⟩=some (.slice A3 e.item.scores.length c3)∧wx.cell? ⟨b,off+k * 7+6,none⟩=some (.int .i64 e.til)∧wx.cell? ⟨b2,off2+k * 7,none⟩=some (.string e.key)∧wx.cell? ⟨b2,off2+k * 7+1,none⟩=some (.int .i64 e.item.kind)∧wx.cell? ⟨b2,off2+k * 7+2,none⟩=some (.string e.item.text)∧wx.cell? ⟨b2,off2+k * 7+3,none⟩=some (.slice B1 e.item.list.length e1)∧wx.cell? ⟨b2,off2+k * 7+4,none⟩=some (.slice B2 e.item.pairs.length e2)∧wx.cell? ⟨b2,off2+k * 7+5,none⟩=some (.slice B3 e.item.scores.length e3)∧wx.cell? ⟨b2,off2+k * 7+6,none⟩=some (.int .i64 e.til)) (go_keep) ((go_at_call 19;refine SI.out.mono ?_;rintro e9 w2 ⟨rfl,f2⟩;have G2:=hid (z01 f2);have P72:=hid (P7.out.fr G2.out hb (Nat.le_trans hB HF.out.size) (by simp));have Q72:=hid (Q7.out.fr G2.out hb2 (Nat.le_trans hB HF.out.size) (by simp));clear f2 x0 x1 x2 x3 x4 x5 x6 y0 y1 y2 y3 y4 y5 y6;obtain⟨x0,x1,x2,x3,x4,x5,x6,-⟩:=P72.out;obtain⟨y0,y1,y2,y3,y4,y5,y6,-⟩:=Q72.out))
   go_wp2
   go_roundg (l.length - (k+1))
   case measure=>omega
   case rel=>exact⟨k+1,rfl,by omega,by go_num,HF.out.trans G2.out⟩
  ·obtain rfl:k=l.length:=by omega
   go_wp2
   go_ret
   exact⟨rfl,HF.out⟩
def zdn:Itm:=⟨1,⟨#[55]⟩,[],[],[]⟩
def z11:List Ent:=[⟨⟨#[108]⟩,zbg,0⟩,⟨⟨#[116]⟩,zdn,10⟩]
theorem zlz:zdn.Small:=⟨by show -9223372036854775808≤(1:Int)∧(1:Int)≤9223372036854775807;omega,by show(⟨#[55]⟩:ByteArray).size≤_;decide,by show 0≤_;omega,by show 0≤_;omega,by show 0≤_;omega,(fun p hp=>by cases hp),(fun p hp=>by cases hp),(fun p hp=>by cases hp)⟩
theorem z4b:∀e∈z11,e.Small:=fun e he=>by
 simp[z11] at he
 rcases he with rfl|rfl
 ·exact⟨by show(⟨#[108]⟩:ByteArray).size≤_;decide,zh5,by show -9223372036854775808≤(0:Int)∧_;decide⟩
 ·exact⟨by show(⟨#[116]⟩:ByteArray).size≤_;decide,zlz,by show -9223372036854775808≤(10:Int)∧_;decide⟩
theorem zk7:z1t z11=0:=by kernel_rfl
theorem zpw:z0p z11 9 ⟨#[116]⟩=0∧getI z11 9 ⟨#[116]⟩=zdn:=⟨by kernel_rfl,by kernel_rfl⟩
theorem zjz:z0p z11 10 ⟨#[116]⟩=0∧getI z11 10 ⟨#[116]⟩=z2r 0:=⟨by kernel_rfl,by kernel_rfl⟩
theorem zu8:zsa z11 5 ⟨#[107]⟩ zbg 0=0∧zsr z11 5 ⟨#[107]⟩ zbg 0=[⟨⟨#[107]⟩,zbg,0⟩,⟨⟨#[108]⟩,zbg,0⟩,⟨⟨#[116]⟩,zdn,10⟩]:=⟨by kernel_rfl,by kernel_rfl⟩
theorem zk4:zo3 z11 9 ⟨#[116]⟩=0∧zou z11 9 ⟨#[116]⟩=10:=⟨by kernel_rfl,by kernel_rfl⟩
theorem zqc:zek z11 10 ⟨#[42]⟩=0∧zbi z11 10 ⟨#[42]⟩=[⟨#[108]⟩]:=⟨by kernel_rfl,by kernel_rfl⟩
theorem zfu:z0p z11 10 ⟨#[]⟩=0∧swL z11 10=[⟨⟨#[108]⟩,zbg,0⟩]∧swN z11 10=1:=⟨by kernel_rfl,by kernel_rfl,by kernel_rfl⟩
def SomeS(l:List Ent)(w:World)(r:Ending)(w':World):Prop:=∃u,r=.returned u∧z1w w' w.heap.size u l∧Fr [] w w'
theorem z7k(w:World):Calls prog 62 #[] w (SomeS z11 w):=by
 go_enter Tryz.func62,Tryz.ntmps62
 go_wp2_with fail
 refine(zna _).mono ?_
 rintro e w1 ⟨v,rfl,hi,f1⟩
 obtain⟨A1,c1,A2,c2,A3,c3,rfl⟩:=hi.form
 have HI:=hid hi
 have F1:=hid f1
 have LT:=hid (World.ownsRow_lit (base:=w1.heap.size) (e:=45) (size:=7) w1 #[.string ⟨#[108]⟩,.int .i64 zbg.kind,.string zbg.text,.slice A1 zbg.list.length c1,.slice A2 zbg.pairs.length c2,.slice A3 zbg.scores.length c3,.int .i64 0,.string ⟨#[116]⟩,.int .i64 1,.string ⟨#[55]⟩,.slice none 0 0,.slice none 0 0,.slice none 0 0,.int .i64 10] 2 (Nat.le_refl _) (by decide) rfl)
 clear hi f1
 go_wp2
 go_ret
 have FA:=(Fr.refl [] w1).alloc (.cells #[.string ⟨#[108]⟩,.int .i64 zbg.kind,.string zbg.text,.slice A1 zbg.list.length c1,.slice A2 zbg.pairs.length c2,.slice A3 zbg.scores.length c3,.int .i64 0,.string ⟨#[116]⟩,.int .i64 1,.string ⟨#[55]⟩,.slice none 0 0,.slice none 0 0,.slice none 0 0,.int .i64 10] 45)
 refine⟨_,rfl,⟨[z7d ⟨⟨#[108]⟩,zbg,0⟩ A1 c1 A2 c2 A3 c3,z7d ⟨⟨#[116]⟩,zdn,10⟩ none 0 none 0 none 0],rfl,fun i e he=>?_,z1d LT.out F1.out.size⟩,F1.out.trans FA⟩
 match i,he with
 | 0,he=>
  cases he
  refine⟨_,rfl,?_⟩
  obtain⟨L1,L2,L3,hv,o1,o2,o3⟩:=HI.out.go FA
  cases hv
  exact⟨_,_,_,_,_,_,rfl,o1,o2,o3⟩
 | 1,he=>
  cases he
  exact⟨_,rfl,_,_,_,_,_,_,rfl,World.ownsRow_nil _ _ _ _,World.ownsRow_nil _ _ _ _,World.ownsRow_nil _ _ _ _⟩
 | i+2,he=>simp[z11] at he
theorem zdv(w:World):Calls prog 22 #[] w fun e w'=>e=.returned (.bool true)∧Fr [] w w':=by
 have SO:=hid (fun W=>z7k W)
 have RO:=hid (fun W=>zna W)
 have G9:=hid (fun(W:World) v (h:z0v W W.heap.size v z11)=>(show Calls prog 70 #[v,.int .i64 9,.string ⟨#[116]⟩] W (IEP zdn 0 W) from by
  have:=zbd z11 v 9 ⟨#[116]⟩ W W.heap.size z4b (by decide) (by decide) (Nat.le_refl _) h
  rw[zpw.1,zpw.2] at this
  exact this))
 have G10:=hid (fun(W:World) v (h:z0v W W.heap.size v z11)=>(show Calls prog 70 #[v,.int .i64 10,.string ⟨#[116]⟩] W (IEP (z2r 0) 0 W) from by
  have:=zbd z11 v 10 ⟨#[116]⟩ W W.heap.size z4b (by decide) (by decide) (Nat.le_refl _) h
  rw[zjz.1,zjz.2] at this
  exact this))
 have PU:=hid (fun(W:World) v u (h:z0v W W.heap.size v z11) (k:z0q W W.heap.size u zbg)=>(show Calls prog 71 #[v,.int .i64 5,.string ⟨#[107]⟩,u,.int .i64 0] W (SCP [⟨⟨#[107]⟩,zbg,0⟩,⟨⟨#[108]⟩,zbg,0⟩,⟨⟨#[116]⟩,zdn,10⟩] 0 W) from by
  have:=zg3 z11 v 5 ⟨#[107]⟩ zbg u 0 W W.heap.size z4b (by decide) (by decide) zh5 (Nat.le_refl _) h k
  rw[zu8.1,zu8.2] at this
  exact this))
 have UN:=hid (fun(W:World) v (h:z0v W W.heap.size v z11)=>(show Calls prog 73 #[v,.int .i64 9,.string ⟨#[116]⟩] W fun e w'=>e=.returned (.tuple #[.int .i64 10,.int .i64 0])∧Fr [] W w' from by
  have:=zdm z11 v 9 ⟨#[116]⟩ W W.heap.size z4b (by decide) (by decide) (Nat.le_refl _) h
  rw[zk4.1,zk4.2] at this
  exact this))
 have KE:=hid (fun(W:World) v (h:z0v W W.heap.size v z11)=>(show Calls prog 74 #[v,.int .i64 10,.string ⟨#[42]⟩] W (TCP [⟨#[108]⟩] 0 W) from by
  have:=z9d z11 v 10 ⟨#[42]⟩ W W.heap.size z4b (by decide) (by decide) (Nat.le_refl _) h
  rw[zqc.1,zqc.2] at this
  exact this))
 have SW:=hid (fun(W:World) v (h:z0v W W.heap.size v z11)=>(show Calls prog 23 #[v,.int .i64 10] W (SNC [⟨⟨#[108]⟩,zbg,0⟩] 1 0 W) from by
  have:=z4f z11 v 10 W W.heap.size z4b (by decide) (Nat.le_refl _) h
  rw[zfu.1,zfu.2.1,zfu.2.2] at this
  exact this))
 have CH:=hid (fun(W:World) v (h:z0v W W.heap.size v z11)=>(show Calls prog 25 #[v] W fun e w'=>e=.returned (.int .i64 0)∧Fr [] W w' from by
  have:=z5u z11 v W W.heap.size z4b (by decide) (Nat.le_refl _) h
  rw[zk7] at this
  exact this))
 have IN:=hid (fun(W:World) v (h:z0q W W.heap.size v (z2r 0))=>(show Calls prog 75 #[v] W fun e w'=>e=.returned (.bool true)∧Fr [] W w' from by
  have:=zex (z2r 0) v W W.heap.size z6j (Nat.le_refl _) h
  rw[show z0o (z2r 0)=true from by kernel_rfl] at this
  exact this))
 have ST:=hid (fun(W:World) (A B:Option Addr) c d (h:Sl W W.heap.size 1 (.slice A 1 c) 1 (z03 [⟨#[108]⟩])) (k:Sl W W.heap.size 1 (.slice B 1 d) 1 (z03 [⟨#[108]⟩]))=>(show Calls prog 69 #[.slice A 1 c,.slice B 1 d] W fun e w'=>e=.returned (.bool true)∧Fr [] W w' from by
  have:=z9z [⟨#[108]⟩] [⟨#[108]⟩] A B c d W.heap.size W (by decide) (by decide) (Nat.le_refl _) h k
  rw[show zdi [⟨#[108]⟩] [⟨#[108]⟩]=true from by kernel_rfl] at this
  exact this))
 go_enter Tryz.func22,Tryz.ntmps22
 go_wp2_with fail
 refine(SO.out _).mono ?_
 rintro e1 w1 ⟨u1,rfl,o1,f1⟩
 obtain⟨A1,c1,rfl⟩:=o1.form
 have F1:=hid f1
 go_wp2_with fail
 refine(G9.out _ _ o1.v).mono ?_
 rintro e2 w2 ⟨u2,rfl,o2,f2⟩
 obtain⟨X1,x1,X2,x2,X3,x3,rfl⟩:=o2.form
 have F2:=hid (F1.out.trans f2)
 have B2:=hid (Whole.new w2 43 [.int .i64 zdn.kind,.string zdn.text,.slice X1 zdn.list.length x1,.slice X2 zdn.pairs.length x2,.slice X3 zdn.scores.length x3])
 have F2b:=hid (F2.out.alloc (.cells #[.int .i64 zdn.kind,.string zdn.text,.slice X1 zdn.list.length x1,.slice X2 zdn.pairs.length x2,.slice X3 zdn.scores.length x3] 43))
 clear o1 f1 o2 f2 F1 F2
 go_wp2_with fail
 refine(SO.out _).mono ?_
 rintro e3 w3 ⟨u3,rfl,o3,f3⟩
 obtain⟨A3,c3,rfl⟩:=o3.form
 have F3:=hid (F2b.out.trans f3)
 have B3:=hid (B2.out.fr f3 (by simp))
 clear B2 F2b f3
 go_wp2_with fail
 refine(G10.out _ _ o3.v).mono ?_
 rintro e4 w4 ⟨u4,rfl,o4,f4⟩
 obtain⟨Y1,y1,Y2,y2,Y3,y3,rfl⟩:=o4.form
 have F4:=hid (F3.out.trans f4)
 have B4:=hid (B3.out.fr f4 (by simp))
 have C4:=hid (Whole.new w4 43 [.int .i64 (z2r 0).kind,.string (z2r 0).text,.slice Y1 (z2r 0).list.length y1,.slice Y2 (z2r 0).pairs.length y2,.slice Y3 (z2r 0).scores.length y3])
 have K4:=hid ((Fr.refl [] w4).alloc (.cells #[.int .i64 (z2r 0).kind,.string (z2r 0).text,.slice Y1 (z2r 0).list.length y1,.slice Y2 (z2r 0).pairs.length y2,.slice Y3 (z2r 0).scores.length y3] 43))
 have HY4:=hid (o4.go K4.out)
 have F4b:=hid (F4.out.trans K4.out)
 have B4b:=hid (B4.out.fr K4.out (by simp))
 clear o3 o4 f4 F4 B4 B3 F3 K4
 go_wp2_with fail
 refine(SO.out _).mono ?_
 rintro e5 w5 ⟨u5,rfl,o5,f5⟩
 obtain⟨A5,c5,rfl⟩:=o5.form
 go_wp2_with fail
 refine(RO.out _).mono ?_
 rintro e6 w6 ⟨u6,rfl,o6,f6⟩
 obtain⟨Z1,z1,Z2,z2,Z3,z3,rfl⟩:=o6.form
 go_wp2_with fail
 refine(PU.out _ _ _ (o5.fr f6).v o6.item).mono ?_
 rintro e7 w7 ⟨u7,rfl,o7,f7⟩
 obtain⟨A7,c7,rfl⟩:=o7.form
 have N7:=hid (((f5.trans f6).trans f7))
 have F7:=hid (F4b.out.trans N7.out)
 have B7:=hid (B4b.out.fr N7.out (by simp))
 have C7:=hid (C4.out.fr N7.out (by simp))
 have HY7:=hid (HY4.out.go N7.out)
 clear o5 o6 o7 f5 f6 f7 N7 F4b B4b C4 HY4
 go_wp2_with fail
 refine(SO.out _).mono ?_
 rintro e8 w8 ⟨u8,rfl,o8,f8⟩
 obtain⟨A8,c8,rfl⟩:=o8.form
 go_wp2_with fail
 refine(UN.out _ _ o8.v).mono ?_
 rintro e9 w9 ⟨rfl,f9⟩
 go_wp2_with fail
 refine(SO.out _).mono ?_
 rintro ea wa ⟨ua,rfl,oa,fa⟩
 obtain⟨Aa,ca,rfl⟩:=oa.form
 go_wp2_with fail
 refine(KE.out _ _ oa.v).mono ?_
 rintro eb wb ⟨Ab,cb,rfl,ob,fb⟩
 have Nb:=hid (((f8.trans f9).trans fa).trans fb)
 have HB:=hid ob
 clear o8 f8 f9 oa fa ob fb
 go_wp2_with fail
 refine(SO.out _).mono ?_
 rintro ec w10 ⟨uc,rfl,oc,fc⟩
 obtain⟨Ac,cc,rfl⟩:=oc.form
 go_wp2_with fail
 refine(SW.out _ _ oc.v).mono ?_
 rintro ed wd ⟨ud,rfl,od,fd⟩
 obtain⟨Ad,cd,rfl⟩:=od.form
 go_wp2_with fail
 refine(SO.out _).mono ?_
 rintro ee we ⟨ue,rfl,oe,fe⟩
 obtain⟨Ae,ce,rfl⟩:=oe.form
 go_wp2_with fail
 refine(CH.out _ _ oe.v).mono ?_
 rintro eg wg ⟨rfl,fg⟩
 have Ng:=hid (((fc.trans fd).trans fe).trans fg)
 have Nh:=hid (Nb.out.trans Ng.out)
 have Fg:=hid (F7.out.trans Nh.out)
 have Bg:=hid (B7.out.fr Nh.out (by simp))
 have Cg:=hid (C7.out.fr Nh.out (by simp))
 have HYg:=hid (HY7.out.go Nh.out)
 have HBg:=hid (z0n HB.out Ng.out (by simp))
 clear oc fc od fd oe fe fg Nb Ng Nh F7 B7 C7 HY7 HB
 obtain⟨p0,p1,p2,p3,p4⟩:=five Bg.out
 have hst:zdn.text.toList=[55]:=by decide +kernel
 obtain⟨q0,q1,q2,q3,q4⟩:=five Cg.out
 go_wp2_with fail
 refine(IN.out _ _ HYg.out.item).mono ?_
 rintro ei wi ⟨rfl,fi⟩
 have Fi:=hid (Fg.out.trans fi)
 have HBi:=hid ((z0n HBg.out fi (by simp)))
 clear fi
 have L1:=hid (z0t (World.ownsRow_lit (base:=wi.heap.size) (e:=9) (size:=1) wi #[.string ⟨#[108]⟩] 1 (Nat.le_refl _) (by decide) rfl))
 have Fj:=hid (Fi.out.alloc (.cells #[.string ⟨#[108]⟩] 9))
 have HBj:=hid (z0t (HBi.out.alloc (.cells #[.string ⟨#[108]⟩] 9)))
 go_wp2_with fail
 refine(ST.out _ _ _ _ _ HBj.out L1.out).mono ?_
 rintro ek wk ⟨rfl,fk⟩
 have Fk:=hid (Fj.out.trans fk)
 clear fk
 go_wp2
 go_ret
 exact⟨rfl,Fk.out⟩
theorem z0v.go{w w':World}{v:Value}{l:List Ent}(h:z0v w w.heap.size v l)(hf:Fr [] w w'):z0v w' w'.heap.size v l:=(h.fr hf (Nat.le_refl _) (by simp)).more hf.size
section
variable {w0 wr w1:World} {bl:List (Nat×List Value)} {its:List (Value×Itm)} {rs:List (Nat×Value×Nat×List Value)} {es:List (Value×List Ent)}
end
theorem zhm{l:List Ent}{p q:Ent}{j:Nat}(h:q∈zcv l p j):q=p∨q∈l:=by
 unfold zcv at h
 rcases List.mem_append.1 h with h|h
 ·exact .inr (List.mem_of_mem_take h)
 ·rcases List.mem_cons.1 h with h|h
  ·exact .inl h
  ·exact .inr (List.mem_of_mem_drop h)
theorem zfp{P:Ent→Prop}{l:List Ent}{now:Int}{s:ByteArray}{x:Itm}{u:Int}(hl:∀e∈l,P e)(hn:P ⟨s,x,u⟩):∀e∈z8z l now s x u,P e:=by
 have h1:∀e∈zb5 (z2m l s) ⟨s,x,u⟩,P e:=fun e he=>by
  rcases zhm he with rfl|h
  ·exact hn
  ·exact hl _ (List.mem_filter.1 h).1
 intro e he
 unfold z8z at he
 split at he
 ·exact h1 e (List.mem_filter.1 he).1
 ·exact h1 e he
theorem zp2(l:List Ent)(now:Int)(p:ByteArray):(zbi l now p).length≤l.length:=by
 unfold zbi z8b
 split
 ·rw[List.length_map];exact List.length_filter_le _ _
 ·simp
theorem znb:∀ {l:List Ent} {p:Option ByteArray},(∀e∈l,e.key.size≤60∧z0d e.item=0∧(0≤e.til∧e.til≤1000000))→rises (ltK Ent.key) l=true→(∀e,l[0]? = some e→z4o p e.key=false)→zmy p l=0
 | [],p,_,_,_=>rfl
 | e :: l,p,h,hr,h0=>by
  obtain⟨h1,h2,h3⟩:=h e (by simp)
  have h4:=h0 e rfl
  have hc:z3b p e=0:=by
   have ht:z3a e.til=true:=by unfold z3a;rw[decide_eq_true h3.1,decide_eq_true h3.2];rfl
   unfold z3b
   rw[if_neg (by omega),if_neg (by simpa using h2),if_neg (by rw[ht];decide),if_neg (by rw[h4];decide)]
  unfold zmy
  rw[if_neg (by simpa using hc)]
  refine znb (fun x hx=>h x (by simp[hx])) ?_ ?_
  ·cases l with
   | nil=>rfl
   | cons y l=>
    have hr':(ltK Ent.key e y&&rises (ltK Ent.key) (y :: l))=true:=hr
    rw[Bool.and_eq_true] at hr'
    exact hr'.2
  ·intro x hx
   cases l with
   | nil=>simp at hx
   | cons y l=>
    simp at hx
    subst hx
    have hr':(ltK Ent.key e y&&rises (ltK Ent.key) (y :: l))=true:=hr
    rw[Bool.and_eq_true] at hr'
    have:ltS e.key y.key=true:=hr'.1
    show(!ltS e.key y.key)=false
    rw[this]
    rfl
theorem zji{l:List Ent}(h:z1m l):z1t l=0:=by
 unfold z1t
 rw[if_neg (by have:=h.le;omega)]
 exact znb (fun e he=>⟨h.keys e he,h.items e he,h.times e he⟩) h.rise (fun e _=>rfl)
theorem z4d{l:List Ent}(h:z1m l)(q:Ent→Bool):z1m (l.filter q):=
 ⟨Nat.le_trans (List.length_filter_le _ _) h.le,fun e he=>h.keys e (List.mem_filter.1 he).1,fun e he=>h.items e (List.mem_filter.1 he).1,fun e he=>h.times e (List.mem_filter.1 he).1,z3i ((z2n (z33 Ent.key) h.rise).filter _)⟩
theorem znh{l:List Ent}(h:z1t l=0)(n:Int)(s:ByteArray):z0p l n s=if z3a n=false then 3 else if 60 < s.size then 2 else 0:=by
 unfold z0p
 rw[if_neg (by simpa using h)]
theorem zdz{t now later:Int}(h:now≤later)(hg:z1r t later=false):z1r t now=false:=by
 unfold z1r at *
 by_cases h1:t=0
 ·rw[decide_eq_false (by simpa using h1)];rfl
 ·rw[decide_eq_true h1,Bool.true_and] at *
  have:¬t≤later:=of_decide_eq_false hg
  exact decide_eq_false (by omega)
theorem zaf{now later:Int}(h:now≤later)(l:List Ent)(s:ByteArray):z2c (z17 l now) later s=z2c l later s:=by
 unfold z2c z17
 rw[List.find?_filter]
 congr 1
 funext e
 by_cases hg:z1r e.til later=false
 ·rw[hg,zdz h hg];simp
 ·have hg':z1r e.til later=true:=by simpa using hg
  rw[hg']
  simp
theorem zea{now later:Int}(h:now≤later)(l:List Ent)(p:ByteArray):z8b (z17 l now) later p=z8b l later p:=by
 unfold z8b z17
 rw[List.filter_filter]
 congr 1
 congr 1
 funext e
 unfold keyM
 by_cases hg:z1r e.til later=false
 ·rw[hg,zdz h hg];simp
 ·have hg':z1r e.til later=true:=by simpa using hg
  rw[hg']
  simp
theorem zd8(l:List Ent)(now:Int):z17 (z17 l now) now=z17 l now:=by
 unfold z17
 rw[List.filter_filter]
 congr 1
 funext e
 simp
theorem ztn{l:List Ent}{e:Ent}(h:z5r Ent.key l e.key=false):zb5 l e=zbl Ent.key l e:=by
 unfold zb5 zbl zcv
 rw[if_neg (by rw[h];decide)]
theorem zhu{l:List Ent}(hr:rises (ltK Ent.key) l=true)(s:ByteArray):z5r Ent.key (z2m l s) s=false:=by
 rcases h:z5r Ent.key (z2m l s) s with _|_
 ·rfl
 ·obtain⟨q,hq,hk⟩:=(z36 Ent.key).1 h
  have hm:=(List.mem_filter.1 (List.mem_of_getElem? hq)).2
  rw[hk] at hm
  simp at hm
theorem z7p{l:List Ent}(hr:rises (ltK Ent.key) l=true)(s:ByteArray)(x:Itm)(u:Int):rises (ltK Ent.key) (zb5 (z2m l s) ⟨s,x,u⟩)=true:=by
 rw[ztn (by exact zhu hr s)]
 exact ze2 Ent.key _ (z7s hr s)
theorem za5{l:List Ent}(hr:rises (ltK Ent.key) l=true)(now:Int)(s:ByteArray)(x:Itm)(u:Int):rises (ltK Ent.key) (z8z l now s x u)=true:=by
 unfold z8z
 split
 ·exact z3i ((z2n (z33 Ent.key) (z7p hr s x u)).filter _)
 ·exact z7p hr s x u
theorem zil{x:Itm}(h:z0o x=true):x=z2r 0:=by
 rw[z7r] at h
 simp at h
 obtain⟨h1,h2,h3⟩:=h
 unfold many at h3
 obtain⟨k,t,a,b,c⟩:=x
 simp at h1 h2 h3
 obtain⟨⟨rfl,rfl⟩,rfl⟩:=h3
 subst h1
 unfold z2r
 congr
theorem zkz{l:List Ent}{e:Ent}:e∈zb5 l e:=by
 unfold zb5 zcv
 simp
theorem zd9{l:List Ent}(hr:rises (ltK Ent.key) l=true){e:Ent}(h:e∈l)(now:Int):z2c l now e.key=if z1r e.til now=true then none else some e:=by
 obtain⟨i,hi⟩:=List.getElem?_of_mem h
 exact zf2 hr hi now
theorem zlr{l:List Ent}{s:ByteArray}(h:∀e∈l,e.key≠s)(now:Int):z2c l now s=none:=by
 unfold z2c
 rw[List.find?_eq_none]
 intro e he
 simp[h e he]
theorem zgn(l:List Ent){s o:ByteArray}(x:Itm)(u:Int)(h:o≠s)(now:Int):z2c (zb5 (z2m l s) ⟨s,x,u⟩) now o=z2c l now o:=by
 have ho:z2c (z2m l s) now o=z2c l now o:=by
  unfold z2c z2m
  rw[List.find?_filter]
  congr 1
  funext e
  by_cases he:e.key=o
  ·have hq:decide (e.key≠s)=true:=by rw[he];exact decide_eq_true h
   rw[decide_eq_true he,hq];simp
  ·rw[decide_eq_false he];simp
 rw[←ho]
 unfold zb5 zcv
 have e1:∀(a b:List Ent) (e:Ent),e.key≠o→z2c (a++e :: b) now o=z2c (a++b) now o:=fun a b e he=>by
  unfold z2c
  rw[List.find?_append,List.find?_append,List.find?_cons]
  rw[decide_eq_false he]
  simp
 rw[e1 _ _ _ (by exact Ne.symm h),List.take_append_drop]
theorem zp9(l:List Ent){s o:ByteArray}(x:Itm)(u:Int)(h:o≠s)(now:Int):z2c (z8z l now s x u) now o=z2c l now o:=by
 unfold z8z
 split
 ·rw[zaf (Int.le_refl _),zgn l x u h]
 ·rw[zgn l x u h]
theorem zgw(l:List Ent){s o:ByteArray}(h:o≠s)(now:Int):z2c (z2m l s) now o=z2c l now o:=by
 unfold z2c z2m
 rw[List.find?_filter]
 congr 1
 funext e
 by_cases he:e.key=o
 ·have hq:decide (e.key≠s)=true:=by rw[he];exact decide_eq_true h
  rw[decide_eq_true he,hq];simp
 ·rw[decide_eq_false he];simp
theorem z26:z0o (z2r 0)=true:=by decide
end Go.Proofs.YtamgdmiopinidaaGreatDoor
