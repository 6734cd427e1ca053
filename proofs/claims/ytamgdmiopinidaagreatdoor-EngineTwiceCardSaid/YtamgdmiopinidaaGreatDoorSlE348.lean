/- Contracts that the proof of E3 uses. No condition beyond those in each theorem. -/
import Derived.Test.YtamgdmiopinidaaGreatDoorSlE344
set_option linter.unusedVariables false
set_option linter.unusedSimpArgs false
set_option maxHeartbeats 8000000
set_option maxRecDepth 100000
namespace Go.Proofs.YtamgdmiopinidaaGreatDoor
open Lib (hid)
open Go.Proofs.Tryz (prog)
open Go.RowKit
theorem zd1(l:List Ent)(A:Option Addr)(c:Nat)(now:Int)(s x:ByteArray)(w:World)(B:Nat)(hB:B≤w.heap.size)(h:z0v w B (.slice A l.length c) l)(hl:l.length≤281474976710656)(hs:∀e∈l,e.Small)(hv:Vars w) :
  Calls prog 5 #[.slice A l.length c,.int .i64 now,.string s,.string x] w fun e w'=>e=.returned (.bool true)∧Fr [] w w':=by
 have S0:=hid ((LE.start hv).ents (h.more hB))
 have D1:=hid (fun W sv (b:Nat) (h:z0v W W.heap.size sv l) (hv:Vars W) (hL:Sl W W.heap.size 1 (.slice (some ⟨b,0,none⟩) 3 3) 3 (z03 [⟨#[115,101,116]⟩,s,x]))=>(show Calls prog 8 #[sv,.int .i64 now,.slice (some ⟨b,0,none⟩) 3 3] W (DoQ (doS l now [zeh,s,x]) (doV l now [zeh,s,x]) (doE l now) W) from zc7 l sv now [zeh,s,x] (some ⟨b,0,none⟩) 3 W.heap.size W hs hl (by simp) hv (Nat.le_refl _) h hL))
 have TW:=hid (fun(he:doE l now=0) (hk:(doV l now [zeh,s,x]).kind≠2)=>show TwI l now s x (doS l now [zeh,s,x]) (z2m (doS l now [zeh,s,x]) s)∧doV l now [zeh,s,x]=z2x tOK from by
  unfold doV at hk
  rw[if_pos he] at hk
  have:=twI (zb6 he).1 (zb6 he).2 hk
  unfold doS doV
  rw[if_pos he,if_pos he]
  exact⟨this,by rw[this.set1]⟩)
 have HT:=hid (fun(he:doE l now=0)=>(zb6 he).2)
 clear h hs hv
 generalize hga:doS l now [zeh,s,x]=a at *
 generalize hgr:doV l now [zeh,s,x]=r at *
 generalize z2m a s=c2 at *
 generalize hge:doE l now=ec at *
 clear hga hgr hge
 go_enter Tryz.func5,Tryz.ntmps5
 have C0:=hid (z5a _ S0.out.v)
 go_wp2_with fail
 refine C0.out.mono ?_
 rintro e w1 ⟨rfl,f1⟩
 have S1:=hid (S0.out.go f1)
 clear f1 S0 C0
 have T1:=hid (S1.out.lit3 ⟨#[115,101,116]⟩ s x)
 have C1:=hid (D1.out _ _ _ (T1.out.es _ (.head _)) T1.out.v (T1.out.rs _ (.head _)))
 go_wp2_with fail
 refine C1.out.mono ?_
 rintro e w2 ⟨u2,v2,rfl,o2,r2,f2⟩
 obtain⟨P2,p2,rfl⟩:=o2.form
 obtain⟨R2,t2,rfl⟩:=r2.form
 have S2:=hid ((((T1.out.go f2).ents o2.v).rep r2.v).box (.int .i64 r.kind) (.string r.text) (.int .i64 r.n) (.slice R2 r.list.length t2))
 clear o2 r2 f2 S1 T1 C1
 clear D1
 by_cases he:ec=0
 rotate_left
 ·have q1:(ec != 0)=true:=by simpa using he
  clear he TW HT
  go_wp2
  go_ret
  exact⟨rfl,S2.out.f⟩
 subst he
 have h0:=HT.out rfl
 by_cases hk:r.kind=2
 ·have q1:(r.kind==2)=true:=by simpa using hk
  clear hk TW HT h0
  obtain⟨r_0,r_1,r_2,r_3⟩:=four (S2.out.bl _ (.head _))
  go_wp2
  go_ret
  exact⟨rfl,S2.out.f⟩
 have q1:(r.kind==2)=false:=by simpa using hk
 obtain⟨T,hr0⟩:=TW.out rfl hk
 have KA:=hid T.oka
 have KC:=hid T.okc
 have HR0:=hid hr0
 have D2:=hid (fun W sv (b:Nat) (h:z0v W W.heap.size sv a) (hv:Vars W) (hL:Sl W W.heap.size 1 (.slice (some ⟨b,0,none⟩) 3 3) 3 (z03 [⟨#[115,101,116]⟩,s,x]))=>(show Calls prog 8 #[sv,.int .i64 now,.slice (some ⟨b,0,none⟩) 3 3] W (DoQ a r 0 W) from by have:=z4u (s:=a) (now:=now) (l:=[zeh,s,x]) T.oka h0 (by simp) W sv (some ⟨b,0,none⟩) 3 hv h hL;rw[T.set2,←hr0] at this;exact this))
 obtain⟨q3,hq3⟩:∃q,q=z1b x:=⟨_,rfl⟩
 have D3:=hid (fun W sv (b:Nat) (h:z0v W W.heap.size sv a) (hv:Vars W) (hL:Sl W W.heap.size 1 (.slice (some ⟨b,0,none⟩) 2 2) 2 (z03 [⟨#[103,101,116]⟩,s]))=>(show Calls prog 8 #[sv,.int .i64 now,.slice (some ⟨b,0,none⟩) 2 2] W (DoQ a q3 0 W) from by have:=z4u (s:=a) (now:=now) (l:=[zwh,s]) T.oka h0 (by simp) W sv (some ⟨b,0,none⟩) 2 hv h hL;rw[T.get1,←hq3] at this;exact this))
 obtain⟨q4,hq4⟩:∃q,q=z0h 1:=⟨_,rfl⟩
 have D4:=hid (fun W sv (b:Nat) (h:z0v W W.heap.size sv a) (hv:Vars W) (hL:Sl W W.heap.size 1 (.slice (some ⟨b,0,none⟩) 2 2) 2 (z03 [⟨#[100,101,108]⟩,s]))=>(show Calls prog 8 #[sv,.int .i64 now,.slice (some ⟨b,0,none⟩) 2 2] W (DoQ c2 q4 0 W) from by have:=z4u (s:=a) (now:=now) (l:=[zwi,s]) T.oka h0 (by simp) W sv (some ⟨b,0,none⟩) 2 hv h hL;rw[T.del1,←hq4] at this;exact this))
 obtain⟨q5,hq5⟩:∃q,q=z0h 0:=⟨_,rfl⟩
 have D5:=hid (fun W sv (b:Nat) (h:z0v W W.heap.size sv c2) (hv:Vars W) (hL:Sl W W.heap.size 1 (.slice (some ⟨b,0,none⟩) 2 2) 2 (z03 [⟨#[100,101,108]⟩,s]))=>(show Calls prog 8 #[sv,.int .i64 now,.slice (some ⟨b,0,none⟩) 2 2] W (DoQ c2 q5 0 W) from by have:=z4u (s:=c2) (now:=now) (l:=[zwi,s]) T.okc h0 (by simp) W sv (some ⟨b,0,none⟩) 2 hv h hL;rw[T.del2,←hq5] at this;exact this))
 obtain⟨q6,hq6⟩:∃q,q=zbq:=⟨_,rfl⟩
 have D6:=hid (fun W sv (b:Nat) (h:z0v W W.heap.size sv c2) (hv:Vars W) (hL:Sl W W.heap.size 1 (.slice (some ⟨b,0,none⟩) 2 2) 2 (z03 [⟨#[103,101,116]⟩,s]))=>(show Calls prog 8 #[sv,.int .i64 now,.slice (some ⟨b,0,none⟩) 2 2] W (DoQ c2 q6 0 W) from by have:=z4u (s:=c2) (now:=now) (l:=[zwh,s]) T.okc h0 (by simp) W sv (some ⟨b,0,none⟩) 2 hv h hL;rw[T.get2,←hq6] at this;exact this))
 obtain⟨q7,hq7⟩:∃q,q=z0h 0:=⟨_,rfl⟩
 have D7:=hid (fun W sv (b:Nat) (h:z0v W W.heap.size sv a) (hv:Vars W) (hL:Sl W W.heap.size 1 (.slice (some ⟨b,0,none⟩) 2 2) 2 (z03 [⟨#[112,101,114,115,105,115,116]⟩,s]))=>(show Calls prog 8 #[sv,.int .i64 now,.slice (some ⟨b,0,none⟩) 2 2] W (DoQ a q7 0 W) from by have:=z4u (s:=a) (now:=now) (l:=[zfr,s]) T.oka h0 (by simp) W sv (some ⟨b,0,none⟩) 2 hv h hL;rw[T.per,←hq7] at this;exact this))
 have SP:=hid (fun W v u (h:z0v W W.heap.size v a) (k:z0v W W.heap.size u a)=>z6z a v u W _ (z07 KA.out) (by have:=KA.out.le;omega) (Nat.le_refl _) h k)
 have SC:=hid (fun W v u (h:z0v W W.heap.size v c2) (k:z0v W W.heap.size u c2)=>z6z c2 v u W _ (z07 KC.out) (by have:=KC.out.le;omega) (Nat.le_refl _) h k)
 have SR:=hid (fun W v u (h:zca W W.heap.size v r) (k:zca W W.heap.size u r)=>zep r v u W _ (by rw[hr0];simp[z2x]) (by rw[hr0];intro y hy;cases hy) (Nat.le_refl _) h k)
 have SQ:=hid (fun W v (h:zca W W.heap.size v q3)=>zep q3 v (.agg #[.int .i64 4,.string x,.int .i64 0,.slice none 0 0]) W _ (by rw[hq3];simp[z1b]) (by rw[hq3];intro y hy;cases hy) (Nat.le_refl _) h (by rw[hq3];exact(z1f.bare W W.heap.size 4 0 x).v))
 have k4:(q4.n==1)=true:=by rw[hq4];rfl
 have k5:(q5.n==0)=true:=by rw[hq5];rfl
 have k6:(q6.kind==5)=true:=by rw[hq6];rfl
 have k7:(q7.n==0)=true:=by rw[hq7];rfl
 clear T TW HT hk hr0 hq3 hq4 hq5 hq6 hq7
 obtain⟨r_0,r_1,r_2,r_3⟩:=four (S2.out.bl _ (.head _))
 have T2:=hid (S2.out.lit3 ⟨#[115,101,116]⟩ s x)
 have hz2:(w2.alloc (.cells #[.int .i64 r.kind,.string r.text,.int .i64 r.n,.slice R2 r.list.length t2] 27)).heap.size=w2.heap.size+1:=by simp
 have C2:=hid (D2.out _ _ (w2.heap.size+1) (T2.out.es _ (.head _)) T2.out.v (by have:=T2.out.rs _ (.head _);rw[hz2] at this;exact this))
 clear hz2
 go_wp2_with fail
 refine C2.out.mono ?_
 rintro e w3 ⟨u3,v3,rfl,o3,r3,f3⟩
 obtain⟨P3,p3,rfl⟩:=o3.form
 obtain⟨R3,t3,rfl⟩:=r3.form
 have S3:=hid ((((T2.out.go f3).ents o3.v).rep r3.v).box (.int .i64 r.kind) (.string r.text) (.int .i64 r.n) (.slice R3 r.list.length t3))
 clear o3 r3 f3 S2 T2 C2
 clear D2
 clear r_0 r_1 r_2 r_3
 have T3:=hid (S3.out.lit2 ⟨#[103,101,116]⟩ s)
 have hz3:(w3.alloc (.cells #[.int .i64 r.kind,.string r.text,.int .i64 r.n,.slice R3 r.list.length t3] 27)).heap.size=w3.heap.size+1:=by simp
 have C3:=hid (D3.out _ _ (w3.heap.size+1) (T3.out.es _ (.tail _ (.head _))) T3.out.v (by have:=T3.out.rs _ (.head _);rw[hz3] at this;exact this))
 clear hz3
 go_wp2_with fail
 refine C3.out.mono ?_
 rintro e w4 ⟨u4,v4,rfl,o4,r4,f4⟩
 obtain⟨P4,p4,rfl⟩:=o4.form
 obtain⟨R4,t4,rfl⟩:=r4.form
 have S4:=hid ((((T3.out.go f4).ents o4.v).rep r4.v).box (.int .i64 q3.kind) (.string q3.text) (.int .i64 q3.n) (.slice R4 q3.list.length t4))
 clear o4 r4 f4 S3 T3 C3
 clear D3
 have T4:=hid (S4.out.lit2 ⟨#[100,101,108]⟩ s)
 have hz4:(w4.alloc (.cells #[.int .i64 q3.kind,.string q3.text,.int .i64 q3.n,.slice R4 q3.list.length t4] 27)).heap.size=w4.heap.size+1:=by simp
 have C4:=hid (D4.out _ _ (w4.heap.size+1) (T4.out.es _ (.tail _ (.tail _ (.head _)))) T4.out.v (by have:=T4.out.rs _ (.head _);rw[hz4] at this;exact this))
 clear hz4
 go_wp2_with fail
 refine C4.out.mono ?_
 rintro e w5 ⟨u5,v5,rfl,o5,r5,f5⟩
 obtain⟨P5,p5,rfl⟩:=o5.form
 obtain⟨R5,t5,rfl⟩:=r5.form
 have S5:=hid ((((T4.out.go f5).ents o5.v).rep r5.v).box (.int .i64 q4.kind) (.string q4.text) (.int .i64 q4.n) (.slice R5 q4.list.length t5))
 clear o5 r5 f5 S4 T4 C4
 clear D4
 have T5:=hid (S5.out.lit2 ⟨#[100,101,108]⟩ s)
 have hz5:(w5.alloc (.cells #[.int .i64 q4.kind,.string q4.text,.int .i64 q4.n,.slice R5 q4.list.length t5] 27)).heap.size=w5.heap.size+1:=by simp
 have C5:=hid (D5.out _ _ (w5.heap.size+1) (T5.out.es _ (.head _)) T5.out.v (by have:=T5.out.rs _ (.head _);rw[hz5] at this;exact this))
 clear hz5
 go_wp2_with fail
 refine C5.out.mono ?_
 rintro e w6 ⟨u6,v6,rfl,o6,r6,f6⟩
 obtain⟨P6,p6,rfl⟩:=o6.form
 obtain⟨R6,t6,rfl⟩:=r6.form
 have S6:=hid ((((T5.out.go f6).ents o6.v).rep r6.v).box (.int .i64 q5.kind) (.string q5.text) (.int .i64 q5.n) (.slice R6 q5.list.length t6))
 clear o6 r6 f6 S5 T5 C5
 clear D5
 have T6:=hid (S6.out.lit2 ⟨#[103,101,116]⟩ s)
 have hz6:(w6.alloc (.cells #[.int .i64 q5.kind,.string q5.text,.int .i64 q5.n,.slice R6 q5.list.length t6] 27)).heap.size=w6.heap.size+1:=by simp
 have C6:=hid (D6.out _ _ (w6.heap.size+1) (T6.out.es _ (.tail _ (.head _))) T6.out.v (by have:=T6.out.rs _ (.head _);rw[hz6] at this;exact this))
 clear hz6
 go_wp2_with fail
 refine C6.out.mono ?_
 rintro e w7 ⟨u7,v7,rfl,o7,r7,f7⟩
 obtain⟨P7,p7,rfl⟩:=o7.form
 obtain⟨R7,t7,rfl⟩:=r7.form
 have S7:=hid ((((T6.out.go f7).ents o7.v).rep r7.v).box (.int .i64 q6.kind) (.string q6.text) (.int .i64 q6.n) (.slice R7 q6.list.length t7))
 clear o7 r7 f7 S6 T6 C6
 clear D6
 have T7:=hid (S7.out.lit2 ⟨#[112,101,114,115,105,115,116]⟩ s)
 have hz7:(w7.alloc (.cells #[.int .i64 q6.kind,.string q6.text,.int .i64 q6.n,.slice R7 q6.list.length t7] 27)).heap.size=w7.heap.size+1:=by simp
 have C7:=hid (D7.out _ _ (w7.heap.size+1) (T7.out.es _ (.tail _ (.tail _ (.tail _ (.tail _ (.tail _ (.head _))))))) T7.out.v (by have:=T7.out.rs _ (.head _);rw[hz7] at this;exact this))
 clear hz7
 go_wp2_with fail
 refine C7.out.mono ?_
 rintro e w8 ⟨u8,v8,rfl,o8,r8,f8⟩
 obtain⟨P8,p8,rfl⟩:=o8.form
 obtain⟨R8,t8,rfl⟩:=r8.form
 have S8:=hid ((((T7.out.go f8).ents o8.v).rep r8.v).box (.int .i64 q7.kind) (.string q7.text) (.int .i64 q7.n) (.slice R8 q7.list.length t8))
 clear o8 r8 f8 S7 T7 C7
 clear D7
 obtain⟨r_0,r_1,r_2,r_3⟩:=four (S8.out.bl _ (.tail _ (.tail _ (.tail _ (.tail _ (.tail _ (.tail _ (.head _))))))))
 obtain⟨r2_0,r2_1,r2_2,r2_3⟩:=four (S8.out.bl _ (.tail _ (.tail _ (.tail _ (.tail _ (.tail _ (.head _)))))))
 have C8:=hid (SR.out _ _ _ (S8.out.rp _ (.tail _ (.tail _ (.tail _ (.tail _ (.tail _ (.tail _ (.head _)))))))) (S8.out.rp _ (.tail _ (.tail _ (.tail _ (.tail _ (.tail _ (.head _))))))))
 go_wp2_with fail
 refine C8.out.mono ?_
 rintro e w9 ⟨rfl,f9⟩
 have S9:=hid (S8.out.go f9)
 clear f9 S8 C8
 clear r_0 r_1 r_2 r_3 r2_0 r2_1 r2_2 r2_3
 have C9:=hid (SP.out _ _ _ (S9.out.es _ (.tail _ (.tail _ (.tail _ (.tail _ (.tail _ (.tail _ (.head _)))))))) (S9.out.es _ (.tail _ (.tail _ (.tail _ (.tail _ (.tail _ (.head _))))))))
 go_wp2_with fail
 refine C9.out.mono ?_
 rintro e w10 ⟨rfl,f10⟩
 have S10:=hid (S9.out.go f10)
 clear f10 S9 C9
 obtain⟨q3_0,q3_1,q3_2,q3_3⟩:=four (S10.out.bl _ (.tail _ (.tail _ (.tail _ (.tail _ (.head _))))))
 have C10:=hid (SQ.out _ _ (S10.out.rp _ (.tail _ (.tail _ (.tail _ (.tail _ (.head _)))))))
 go_wp2_with fail
 refine C10.out.mono ?_
 rintro e w11 ⟨rfl,f11⟩
 have S11:=hid (S10.out.go f11)
 clear f11 S10 C10
 clear q3_0 q3_1 q3_2 q3_3
 obtain⟨q4_0,q4_1,q4_2,q4_3⟩:=four (S11.out.bl _ (.tail _ (.tail _ (.tail _ (.head _)))))
 obtain⟨q5_0,q5_1,q5_2,q5_3⟩:=four (S11.out.bl _ (.tail _ (.tail _ (.head _))))
 have C11:=hid (SC.out _ _ _ (S11.out.es _ (.tail _ (.tail _ (.tail _ (.head _))))) (S11.out.es _ (.tail _ (.tail _ (.head _)))))
 go_wp2_with fail
 refine C11.out.mono ?_
 rintro e w12 ⟨rfl,f12⟩
 have S12:=hid (S11.out.go f12)
 clear f12 S11 C11
 clear q4_0 q4_1 q4_2 q4_3 q5_0 q5_1 q5_2 q5_3
 obtain⟨q6_0,q6_1,q6_2,q6_3⟩:=four (S12.out.bl _ (.tail _ (.head _)))
 obtain⟨q7_0,q7_1,q7_2,q7_3⟩:=four (S12.out.bl _ (.head _))
 have C12:=hid (SP.out _ _ _ (S12.out.es _ (.tail _ (.tail _ (.tail _ (.tail _ (.tail _ (.tail _ (.head _)))))))) (S12.out.es _ (.head _)))
 go_wp2_with fail
 refine C12.out.mono ?_
 rintro e w13 ⟨rfl,f13⟩
 have S13:=hid (S12.out.go f13)
 clear f13 S12 C12
 go_wp2
 go_ret
 exact⟨rfl,S13.out.f⟩
end Go.Proofs.YtamgdmiopinidaaGreatDoor
