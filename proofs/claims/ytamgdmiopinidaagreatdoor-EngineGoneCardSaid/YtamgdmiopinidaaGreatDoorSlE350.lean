/- Contracts that the proof of E3 uses. No condition beyond those in each theorem. -/
import Derived.Test.YtamgdmiopinidaaGreatDoorSlE344
set_option linter.unusedVariables false
set_option linter.unusedSimpArgs false
set_option maxHeartbeats 8000000
set_option maxRecDepth 100000
namespace Go.Proofs.YtamgdmiopinidaaGreatDoor
open Lib (hid)
open Go.Proofs.Tryz (prog)
open Go.RowKit
structure GoneI(l:List Ent)(now:Int)(m:List ByteArray):Prop where
 ok:z1m l
 h0:0≤now∧now≤1000000
 okb:z1m (swL l now)
 rep:(doR (swL l now) now m).2=(doR l now m).2
 okx:z1m (doR l now m).1
 oky:z1m (doR (swL l now) now m).1
 swx:swL (doR l now m).1 now=z17 (doR l now m).1 now
 swy:swL (doR (swL l now) now m).1 now=z17 (doR l now m).1 now
 okc:z1m (z17 (doR l now m).1 now)
theorem zeq{l:List Ent}{now:Int}(ok:z1m l)(h0:0≤now∧now≤1000000):z0p l now ⟨#[]⟩=0:=by
 rw[znh (zji ok),if_neg (by unfold z3a;rw[decide_eq_true h0.1,decide_eq_true h0.2];decide),if_neg (by decide)]
theorem goneI{l:List Ent}{now:Int}(h:z0p l now ⟨#[]⟩=0)(m:List ByteArray):GoneI l now m:=by
 obtain⟨h1,h0,_⟩:=zwj h
 have ok:=zta h1
 have e1:swL l now=z17 l now:=by unfold swL;rw[if_pos h]
 have okb:z1m (z17 l now):=z4d ok _
 have T:=(zmi ok.rise now).doR m
 have okx:=zcu (l:=m) ok h0
 have oky:=zcu (l:=m) okb h0
 refine⟨ok,h0,by rw[e1];exact okb,by rw[e1];exact T.2.symm,okx,by rw[e1];exact oky,by unfold swL;rw[if_pos (zeq okx h0)],?_,z4d okx _⟩
 rw[e1]
 unfold swL
 rw[if_pos (zeq oky h0)]
 exact T.1.eq.symm
theorem zdl(l:List Ent)(A:Option Addr)(c:Nat)(now:Int)(m:List ByteArray)(A2:Option Addr)(c2:Nat)(w:World)(B:Nat)(hB:B≤w.heap.size)(h:z0v w B (.slice A l.length c) l)(hl:l.length≤281474976710656)(hs:∀e∈l,e.Small)(hm:m.length≤281474976710656)(h2:Sl w B 1 (.slice A2 m.length c2) m.length (z03 m))(hv:Vars w) :
  Calls prog 6 #[.slice A l.length c,.int .i64 now,.slice A2 m.length c2] w fun e w'=>e=.returned (.bool true)∧Fr [] w w':=by
 have S0:=hid (((LE.start hv).ents (h.more hB)).row (h2.more hB))
 have SB:=hid (fun W sv (h:z0v W W.heap.size sv l)=>z4f l sv now W _ hs hl (Nat.le_refl _) h)
 have GI:=hid (fun(he:z0p l now ⟨#[]⟩=0)=>goneI he m)
 clear h h2 hs hv
 generalize hge:z0p l now ⟨#[]⟩=ec at *
 clear hge
 have HM:=hid hm
 go_enter Tryz.func6,Tryz.ntmps6
 have C0:=hid (z5a _ S0.out.v)
 go_wp2_with fail
 refine C0.out.mono ?_
 rintro e w1 ⟨rfl,f1⟩
 have S1:=hid (S0.out.go f1)
 clear f1 S0 C0
 have C1:=hid (zdv w1)
 go_wp2_with fail
 refine C1.out.mono ?_
 rintro e w2 ⟨rfl,f2⟩
 have S2:=hid (S1.out.go f2)
 clear f2 S1 C1
 have C2:=hid (SB.out _ _ (S2.out.es _ (.head _)))
 go_wp2_with fail
 refine C2.out.mono ?_
 rintro e w3 ⟨u3,rfl,o3,f3⟩
 obtain⟨P3,p3,rfl⟩:=o3.form
 have S3:=hid ((S2.out.go f3).ents o3.v)
 clear o3 f3 S2 C2
 clear SB
 by_cases he:ec=0
 rotate_left
 ·have q1:(ec != 0)=true:=by simpa using he
  clear he GI
  generalize swL l now=sl at *
  generalize swN l now=sn at *
  go_wp2
  go_ret
  exact⟨rfl,S3.out.f⟩
 subst he
 have T:=GI.out rfl
 have DX:=hid (fun W sv (h:z0v W W.heap.size sv l) (hv:Vars W) hL=>(show Calls prog 8 #[sv,.int .i64 now,.slice A2 m.length c2] W (DoQ (doR l now m).1 (doR l now m).2 0 W) from z4u T.ok T.h0 hm W sv A2 c2 hv h hL))
 have DY:=hid (fun W sv (h:z0v W W.heap.size sv (swL l now)) (hv:Vars W) hL=>(show Calls prog 8 #[sv,.int .i64 now,.slice A2 m.length c2] W (DoQ (doR (swL l now) now m).1 (doR l now m).2 0 W) from by have:=z4u T.okb T.h0 hm W sv A2 c2 hv h hL;rw[T.rep] at this;exact this))
 have SX:=hid (fun W sv (h:z0v W W.heap.size sv (doR l now m).1)=>(show Calls prog 23 #[sv,.int .i64 now] W (SNC (z17 (doR l now m).1 now) (swN (doR l now m).1 now) 0 W) from by have:=z4f (doR l now m).1 sv now W _ (z07 T.okx) (by have:=T.okx.le;omega) (Nat.le_refl _) h;rw[T.swx,zeq T.okx T.h0] at this;exact this))
 have SY:=hid (fun W sv (h:z0v W W.heap.size sv (doR (swL l now) now m).1)=>(show Calls prog 23 #[sv,.int .i64 now] W (SNC (z17 (doR l now m).1 now) (swN (doR (swL l now) now m).1 now) 0 W) from by have:=z4f (doR (swL l now) now m).1 sv now W _ (z07 T.oky) (by have:=T.oky.le;omega) (Nat.le_refl _) h;rw[T.swy,zeq T.oky T.h0] at this;exact this))
 have SP:=hid (fun W v u (h:z0v W W.heap.size v (z17 (doR l now m).1 now)) (k:z0v W W.heap.size u (z17 (doR l now m).1 now))=>z6z _ v u W _ (z07 T.okc) (by have:=T.okc.le;omega) (Nat.le_refl _) h k)
 have SR:=hid (fun W v u (h:zca W W.heap.size v (doR l now m).2) (k:zca W W.heap.size u (doR l now m).2)=>zep _ v u W _ (zns T.ok T.h0).1 (zns T.ok T.h0).2 (Nat.le_refl _) h k)
 clear T GI hm
 generalize z17 (doR l now m).1 now=cs at *
 generalize swN (doR l now m).1 now=n1 at *
 generalize swN (doR (swL l now) now m).1 now=n2 at *
 generalize (doR (swL l now) now m).1=y at *
 generalize (doR l now m).1=x at *
 generalize (doR l now m).2=r at *
 generalize swN l now=n0 at *
 generalize swL l now=b at *
 have T3:=S3
 have C3:=hid (DX.out _ _ (T3.out.es _ (.tail _ (.head _))) T3.out.v (T3.out.rs _ (.head _)))
 go_wp2_with fail
 refine C3.out.mono ?_
 rintro e w4 ⟨u4,v4,rfl,o4,r4,f4⟩
 obtain⟨P4,p4,rfl⟩:=o4.form
 obtain⟨R4,t4,rfl⟩:=r4.form
 have S4:=hid ((((T3.out.go f4).ents o4.v).rep r4.v).box (.int .i64 r.kind) (.string r.text) (.int .i64 r.n) (.slice R4 r.list.length t4))
 clear o4 r4 f4 S3 T3 C3
 have T4:=S4
 have C4:=hid (DY.out _ _ (T4.out.es _ (.tail _ (.head _))) T4.out.v (T4.out.rs _ (.head _)))
 go_wp2_with fail
 refine C4.out.mono ?_
 rintro e w5 ⟨u5,v5,rfl,o5,r5,f5⟩
 obtain⟨P5,p5,rfl⟩:=o5.form
 obtain⟨R5,t5,rfl⟩:=r5.form
 have S5:=hid ((((T4.out.go f5).ents o5.v).rep r5.v).box (.int .i64 r.kind) (.string r.text) (.int .i64 r.n) (.slice R5 r.list.length t5))
 clear o5 r5 f5 S4 T4 C4
 clear DX DY
 have C5:=hid (SX.out _ _ (S5.out.es _ (.tail _ (.head _))))
 go_wp2_with fail
 refine C5.out.mono ?_
 rintro e w6 ⟨u6,rfl,o6,f6⟩
 obtain⟨P6,p6,rfl⟩:=o6.form
 have S6:=hid ((S5.out.go f6).ents o6.v)
 clear o6 f6 S5 C5
 have C6:=hid (SY.out _ _ (S6.out.es _ (.tail _ (.head _))))
 go_wp2_with fail
 refine C6.out.mono ?_
 rintro e w7 ⟨u7,rfl,o7,f7⟩
 obtain⟨P7,p7,rfl⟩:=o7.form
 have S7:=hid ((S6.out.go f7).ents o7.v)
 clear o7 f7 S6 C6
 clear SX SY
 obtain⟨r_0,r_1,r_2,r_3⟩:=four (S7.out.bl _ (.tail _ (.head _)))
 obtain⟨r2_0,r2_1,r2_2,r2_3⟩:=four (S7.out.bl _ (.head _))
 have C7:=hid (SR.out _ _ _ (S7.out.rp _ (.tail _ (.head _))) (S7.out.rp _ (.head _)))
 go_wp2_with fail
 refine C7.out.mono ?_
 rintro e w8 ⟨rfl,f8⟩
 have S8:=hid (S7.out.go f8)
 clear f8 S7 C7
 clear r_0 r_1 r_2 r_3 r2_0 r2_1 r2_2 r2_3
 have C8:=hid (SP.out _ _ _ (S8.out.es _ (.tail _ (.head _))) (S8.out.es _ (.head _)))
 go_wp2_with fail
 refine C8.out.mono ?_
 rintro e w9 ⟨rfl,f9⟩
 have S9:=hid (S8.out.go f9)
 clear f9 S8 C8
 go_wp2
 go_ret
 exact⟨rfl,S9.out.f⟩
end Go.Proofs.YtamgdmiopinidaaGreatDoor
