/- Contracts; no condition but each theorem's own. -/
import Derived.Test.YtnmoajaelmimnaaGreatDoorSlY33
set_option linter.unusedVariables false
set_option linter.unusedSimpArgs false
set_option maxHeartbeats 8000000
set_option maxRecDepth 100000
namespace Go.Proofs.YtnmoajaelmimnaaGreatDoor
open Go.Proofs.Tryz
section
open Go.RowKit
theorem z94(s)(e):zah s e=q00 e∨∃x,x∈s.slots∧x.key=e.key∧z6u s.segs x=e.item∧zah s e={ x with til:=e.til }:=by
 by_cases hh:z4o Slt.key s.slots e.key=true
 ·obtain⟨x,a,b⟩:=(z2s Slt.key).1 hh;rw[zoc hh a];by_cases hs:z7a (z6u s.segs x) e.item=true
  ·rw[Xf hs];exact .inr ⟨x,Xj a,b,zl9.1 hs,rfl⟩
  ·rw[Xc hs];exact .inl rfl
 ·exact .inl (zsw hh)
theorem zod(s)(e):(zah s e).key=e.key:=by
 rcases z94 s e with h|⟨x,-,hk,-,h⟩
 ·rw[h];rfl
 ·rw[h];exact hk
theorem zxw(s)(e):(zah s e).til=e.til:=by
 rcases z94 s e with h|⟨x,-,hk,-,h⟩
 ·rw[h];rfl
 ·rw[h]
theorem zxv(s:Sto)(e):z6u s.segs (zah s e)=e.item:=by
 rcases z94 s e with h|⟨x,-,-,hl,h⟩
 ·rw[h];rfl
 ·rw[h];exact hl
theorem zxx(s)(l):z0y (z8i s l)=l:=by
 unfold z0y z8i;rw[Ki];refine(Kg (g:=id) fun e _=>?_).trans (List.map_id l);show(⟨(zah s e).key,z6u s.segs (zah s e),(zah s e).til⟩:Ent)=e;rw[zod,zxw,zxv]
theorem q1c{s:Sto}{l:List Ent}(h:z6e s)(k:z22 l):z6e (z8i s l):=by
 refine⟨by show(l.map (zah s)).length≤16;rw[Xx];exact k.le,h.sle,h.rle,h.recs,fun y f=>?_,zf9 (key:=Ent.key) (zah s) (zod s) k.rise⟩;obtain⟨e,a,rfl⟩:=Yt.1 f;have d:=k.keys e a;have b:=k.times e a;rcases z94 s e with hx|⟨x,hm,hxk,-,hx⟩
 ·rw[hx];exact⟨d,fun _=>⟨k.items e a,rfl,rfl⟩,(fun g=>by cases g),b⟩
 ·rw[hx];have hs:=h.slot x hm;exact⟨hs.key,hs.hot,hs.cold,b⟩
theorem z1i.later{w:World}{base:Nat}{v:Value}{r:Rep}(h:z1i w base v r){p:Addr}(hp:p.block < base)(u):z1i (w.setCell p u) base v r:=by
 obtain⟨a,x,d,b⟩:=h;exact⟨a,x,d,z0d b hp u⟩
def RwP(t:Sto)(r:Rep)(w:World)(e:Ending)(w':World):Prop:=∃u x,e=.returned (.tuple #[u,x])∧StI w' w.heap.size u t∧z1i w' w.heap.size x r∧Fr [] w w'
theorem zqf(s)(v lv:Value)(now:Int)(l)(w:World)(B:Nat)(ok:z6e s)(h0:0≤now∧now≤1000000)(okp:z22 (doR (z0y s) now l).1)(hB:B≤w.heap.size)(h:z5p w B v s)
  (hr:∀W sv,Fr [] w W→z1f W W.heap.size sv (z0y s)→Calls prog 30 #[sv,.int .i64 now,lv] W (zsd (z0y s) now l W)):
  Calls prog 93 #[v,.int .i64 now,lv] w (RwP (z8i s (doR (z0y s) now l).1) (doR (z0y s) now l).2 w):=by
 have OW:=hid (fun W (hW:Fr [] w W)=>z9k s v W B (z1k ok) (z9j ok) (Xd hB hW.size) (h.fr hW hB (by simp)));have HR:=hid hr;have OK:=hid ok;have U:=hid okp;clear okp;have T:=hid (q1c ok U.o);obtain⟨a,b,rfl,h1,h2⟩:=h;obtain⟨t,A,rfl⟩:=h1.form;obtain⟨r,m,rfl⟩:=h2.form;have F1:=hid ((((Fr.refl [] w).alloc (.cells #[.slice t s.slots.length A,.slice r s.segs.length m] 42)).alloc (.cells #[.slice none 0 0,.slice none 0 0] 42)).alloc (.cells yRza 27));have W1:=hid (((Whole.new w 42 [.slice t s.slots.length A,.slice r s.segs.length m]).alloc (.cells #[.slice none 0 0,.slice none 0 0] 42)).alloc (.cells yRza 27))
 have V1:=hid (show Whole (((w.alloc (.cells #[.slice t s.slots.length A,.slice r s.segs.length m] 42)).alloc (.cells #[.slice none 0 0,.slice none 0 0] 42)).alloc (.cells yRza 27)) (w.heap.size+1) 42 [.slice none 0 0,.slice none 0 0] from by
  have:=(Whole.new (w.alloc (.cells #[.slice t s.slots.length A,.slice r s.segs.length m] 42)) 42 [.slice none 0 0,.slice none 0 0]).alloc (.cells yRza 27);simpa using this)
 have Q1:=hid (show Whole (((w.alloc (.cells #[.slice t s.slots.length A,.slice r s.segs.length m] 42)).alloc (.cells #[.slice none 0 0,.slice none 0 0] 42)).alloc (.cells yRza 27)) (w.heap.size+1+1) 27 yRzl from by
  have:=Whole.new ((w.alloc (.cells #[.slice t s.slots.length A,.slice r s.segs.length m] 42)).alloc (.cells #[.slice none 0 0,.slice none 0 0] 42)) 27 yRzl;simpa using this)
 obtain⟨x0,x1⟩:=two W1.o;clear h1 h2 hr ok;go_enter func93,ntmps93;go_wp2_with fail;refine(OW.o _ F1.o).mono ?_;rintro e3 e ⟨u,rfl,hu,Z⟩;have hz1:=F1.o.size;have f:=Z.size;obtain⟨mid,a,b,rfl,S,a9,ha,hb⟩:=hu.mid (base':=(((w.alloc (.cells #[.slice t s.slots.length A,.slice r s.segs.length m] 42)).alloc (.cells #[.slice none 0 0,.slice none 0 0] 42)).alloc (.cells yRza 27)).heap.size) (by omega) f;obtain⟨P,Q,rfl⟩:=ha.form;obtain⟨O,M,rfl⟩:=hb.form;have L:=(Fr.refl [] e).alloc (.cells #[.slice P s.slots.length Q,.slice O s.segs.length M] 115);have F3:=hid ((F1.o.trans Z).trans L);have V3:=hid ((V1.o.fr Z (by simp)).fr L (by simp));have Q3:=hid ((Q1.o.fr Z (by simp)).fr L (by simp));have R:=hid (show KpM (e.alloc (.cells #[.slice P s.slots.length Q,.slice O s.segs.length M] 115)) (((w.alloc (.cells #[.slice t s.slots.length A,.slice r s.segs.length m] 42)).alloc (.cells #[.slice none 0 0,.slice none 0 0] 42)).alloc (.cells yRza 27)).heap.size mid e.heap.size (.slice P s.slots.length Q) (.slice O s.segs.length M) s from⟨Whole.new e 115 _,S,f,ha.go L,hb.go L,by simp;omega⟩);obtain⟨Y,V⟩:=two R.o.k;have VI:=hid (zip s e.heap.size P O Q M _ (e.alloc (.cells #[.slice P s.slots.length Q,.slice O s.segs.length M] 115)).heap.size (z1k OK.o) (by have:=OK.o.le;omega) (fun x hx hc=>((OK.o.slot x hx).cold hc).2) (Xb _) Y V R.o.sl.o.v R.o.sg.o.v);clear ha hb hu Z x0 x1 L;go_wp2_with fail;refine VI.o.mono ?_;rintro e4 w4 ⟨u4,rfl,F,K⟩;have F4:=hid (F3.o.trans K);have K4:=hid (R.o.go K);have V4:=hid (V3.o.fr K (by simp));have Q4:=hid (Q3.o.fr K (by simp));have RW:=hid (HR.o w4 u4 F4.o (F.val K.size));unfold zsd at RW;obtain⟨UA,uc,rfl⟩:=F.form;generalize doR (z0y s) now l=d at *;clear F K Y V;go_wp2_with fail;refine RW.o.mono ?_;rintro e5 g ⟨u5,v5,rfl,X,E,G⟩;obtain⟨y,z,rfl⟩:=E.form;have EV:=hid X.v;obtain⟨UU,uu,rfl⟩:=EV.o.form;have HV:=hid E;have D:=(Fr.refl [] g).alloc (.cells (yRa d.2 y z) 27);have F6:=hid ((F4.o.trans G).trans D);have K6:=hid ((K4.o.go G).go D);have V6:=hid ((V4.o.fr G (by simp)).fr D (by simp));have Q6:=hid ((Q4.o.fr G (by simp)).fr D (by simp));have R6:=hid (Whole.new g 27 (yRl d.2 y z));have a1:=hid (HV.o.fr D);have a4:(((w.alloc (.cells #[.slice t s.slots.length A,.slice r s.segs.length m] 42)).alloc (.cells #[.slice none 0 0,.slice none 0 0] 42)).alloc (.cells yRza 27)).heap.size≤(g.alloc (.cells (yRa d.2 y z) 27)).heap.size:=Xd f (Kj K6.o.k.lt);have BE:=hid (zq7 s (((w.alloc (.cells #[.slice t s.slots.length A,.slice r s.segs.length m] 42)).alloc (.cells #[.slice none 0 0,.slice none 0 0] 42)).alloc (.cells yRza 27)).heap.size mid e.heap.size (.slice P s.slots.length Q) (.slice O s.segs.length M) (.slice UU d.1.length uu) d.1 (g.alloc (.cells (yRa d.2 y z) 27)) g.heap.size OK.o U.o a4 (by simp) K6.o (EV.o.fr D (Xb _) (by simp)))
 have a5:¬e.heap.size=g.heap.size:=by
  have:=R.o.k.lt;have h4:=(K4.o.k.fr G (by simp)).lt;omega
 have a7:w.heap.size+1+1 < g.heap.size:=Yx Q4.o.lt G.size;clear X E G D;go_wp2_with fail;refine BE.o.mono ?_;rintro e7 I ⟨rfl,J,a0⟩;obtain⟨p,q,C,hp,hq⟩:=a0;obtain⟨PA,pc,rfl⟩:=hp.form;obtain⟨PB,pd,rfl⟩:=hq.form;have a8:w.heap.size+1+1 < e.heap.size:=by have:=f;simp at this;omega
 have V7:=hid (V6.o.fr J (by simp;omega));have Q7:=hid (Q6.o.fr J (by simp;omega));have R7:=hid (R6.o.fr J (by simpa using fun h=>a5 h.symm))
 have a2:=hid (show z1i I w4.heap.size (.agg (yRa d.2 y z)) d.2 from by
  obtain⟨a3,u,hu,ho⟩:=a1.o;exact⟨a3,u,hu,z08 ho J (fun j hj hm=>z0u ho K6.o.k (by decide) (by rw[hj];simpa using hm))⟩)
 have KK:=hid C;have OT:=hid (fun W (hW:Fr [] I W)=>z9k (z8i s d.1) (.agg #[.slice PA (z8i s d.1).slots.length pc,.slice PB (z8i s d.1).segs.length pd]) W W.heap.size (z1k T.o) (z9j T.o) (Xb _) (z5p.go ⟨_,_,rfl,hp,hq⟩ hW));have F7:=hid (((F6.o.toB w.heap.size).trans ((J.toB w.heap.size).more (fun j hj=>.inr (by simp at hj;omega)))).fr (Xb _));obtain⟨Y,V⟩:=two C;obtain⟨r0,r1,r2,r3⟩:=four R7.o;have n1:¬g.heap.size=w.heap.size+1:=by omega
 have n2:¬w.heap.size+1=g.heap.size:=by omega
 have n3:¬g.heap.size=w.heap.size+1+1:=by omega
 have n4:¬w.heap.size+1+1=g.heap.size:=by omega
 have n5:¬e.heap.size=w.heap.size+1:=by omega
 have n6:¬w.heap.size+1=e.heap.size:=by omega
 have n7:¬e.heap.size=w.heap.size+1+1:=by omega
 have n8:¬w.heap.size+1+1=e.heap.size:=by omega
 clear C hp hq J;go_upto_region 4 with fail;go_region_held3 (fun wx=>wx.cell? ⟨e.heap.size,0,none⟩=some (.slice PA (z8i s d.1).slots.length pc)∧wx.cell? ⟨e.heap.size,1,none⟩=some (.slice PB (z8i s d.1).segs.length pd)∧yRc wx g.heap.size d.2 y z) ((simp only[yRc];go_keep)) ((first|(go_at_call 72;refine(OT.o _ (Fr.refl [] _).drew).mono ?_;rintro e8 w8 ⟨u8,rfl,H,f8⟩;obtain⟨O1,o1,O2,o2,rfl⟩:=H.form;have a6:=hid H;have N:=hid (z01 f8);have K8:=hid (KK.o.fr N.o (by simp));have V8:=hid (V7.o.fr N.o (by simp));have Q8:=hid (Q7.o.fr N.o (by simp));have R8:=hid (R7.o.fr N.o (by simp));clear H f8 Y V r0 r1 r2 r3;obtain⟨Y,V⟩:=two K8.o;obtain⟨r0,r1,r2,r3⟩:=four R8.o;obtain⟨v0,v1⟩:=two V8.o;obtain⟨y0,y1⟩:=zo1 V8.o;obtain⟨s0,s1,s2,s3⟩:=four Q8.o;obtain⟨z0,z1,z2,z3⟩:=z1p Q8.o)))
 all_goals
  go_wp2;refine Xg (v:=.tuple #[.agg #[.slice O1 (z8i s d.1).slots.length o1,.slice O2 (z8i s d.1).segs.length o2],.agg (yRa d.2 y z)]) (by simp[results,results93,go_sem,v0,v1,s0,s1,s2,s3]) rfl ?_;have c1:w.heap.size+1 < I.drew.heap.size+3:=by have:=V7.o.lt;show _ < I.heap.size+3;omega
  have c2:w.heap.size+1+1 < I.drew.heap.size+3:=by have:=Q7.o.lt;show _ < I.heap.size+3;omega
  have d1:w.heap.size+1 < w4.heap.size:=V4.o.lt;have d2:w.heap.size+1+1 < w4.heap.size:=Q4.o.lt;have l1:w.heap.size≤w.heap.size+1:=by omega
  have l2:w.heap.size≤w.heap.size+1+1:=by omega
  exact⟨_,_,rfl,(((((((a6.o.later (p:=⟨w.heap.size+1,0,none⟩) c1 (.slice O1 (z8i s d.1).slots.length o1)).later (p:=⟨w.heap.size+1,1,none⟩) c1 (.slice O2 (z8i s d.1).segs.length o2)).later (p:=⟨w.heap.size+1+1,0,none⟩) c2 (.int .i64 d.2.kind)).later (p:=⟨w.heap.size+1+1,1,none⟩) c2 (.string d.2.text)).later (p:=⟨w.heap.size+1+1,2,none⟩) c2 (.int .i64 d.2.n)).later (p:=⟨w.heap.size+1+1,3,none⟩) c2 (.slice y d.2.list.length z))).less (Xd F7.o.size (Nat.le_add_right _ 3)),((((((((a2.o.fr N.o).later (p:=⟨w.heap.size+1,0,none⟩) d1 (.slice O1 (z8i s d.1).slots.length o1)).later (p:=⟨w.heap.size+1,1,none⟩) d1 (.slice O2 (z8i s d.1).segs.length o2)).later (p:=⟨w.heap.size+1+1,0,none⟩) d2 (.int .i64 d.2.kind)).later (p:=⟨w.heap.size+1+1,1,none⟩) d2 (.string d.2.text)).later (p:=⟨w.heap.size+1+1,2,none⟩) d2 (.int .i64 d.2.n)).later (p:=⟨w.heap.size+1+1,3,none⟩) d2 (.slice y d.2.list.length z))).base F4.o.size,(((((((F7.o.trans N.o).setCell (p:=⟨w.heap.size+1,0,none⟩) (.inr l1) (.slice O1 (z8i s d.1).slots.length o1)).setCell (p:=⟨w.heap.size+1,1,none⟩) (.inr l1) (.slice O2 (z8i s d.1).segs.length o2)).setCell (p:=⟨w.heap.size+1+1,0,none⟩) (.inr l2) (.int .i64 d.2.kind)).setCell (p:=⟨w.heap.size+1+1,1,none⟩) (.inr l2) (.string d.2.text)).setCell (p:=⟨w.heap.size+1+1,2,none⟩) (.inr l2) (.int .i64 d.2.n)).setCell (p:=⟨w.heap.size+1+1,3,none⟩) (.inr l2) (.slice y d.2.list.length z))⟩
def DcP(t:Sto)(r:Rep)(c:Int)(w:World)(e:Ending)(w':World):Prop:=∃u x,e=.returned (.tuple #[u,x,.int .i64 c])∧StI w' w.heap.size u t∧z1i w' w.heap.size x r∧Fr [] w w'
theorem zj6(s)(v lv:Value)(now:Int)(l)(w:World)(B:Nat)(ok:z6e s)(h0:0≤now∧now≤1000000)(okp:z22 (doR (z0y s) now l).1)(hB:B≤w.heap.size)(h:z5p w B v s)
  (hr:∀W sv,Fr [] w W→z1f W W.heap.size sv (z0y s)→Calls prog 30 #[sv,.int .i64 now,lv] W (zsd (z0y s) now l W)):
  Calls prog 26 #[v,.int .i64 now,lv] w (DcP (z8i s (doR (z0y s) now l).1) (doR (z0y s) now l).2 0 w):=by
 have O:=hid okp;clear okp
 have CK:=hid (fun W (hW:Fr [] w W)=>(show Calls prog 24 #[v] W (fun e L=>e=.returned (.int .i64 0)∧Fr [] W L) from by
  have:=z7h s v W B (z1k ok) (Xd hB hW.size) (h.fr hW hB (by simp));rw[z69 ok] at this;exact this))
 have TM:=hid (fun W=>(show Calls prog 29 #[.int .i64 now] W (fun e L=>e=.returned (.bool true)∧W=L) from by
  have:=z9m now W;rw[show z30 now=true from by unfold z30;rw[Xi h0.1,Xi h0.2];rfl] at this;exact this))
 have RW:=hid (fun W (hW:Fr [] w W)=>zqf s v lv now l W B ok h0 O.o (Xd hB hW.size) (h.fr hW hB (by simp)) (fun U sv D=>hr U sv (hW.trans D)));generalize doR (z0y s) now l=d at *;obtain⟨a,b,rfl,h1,D⟩:=h;obtain⟨z,x,rfl⟩:=h1.form;obtain⟨u,y,rfl⟩:=D.form;have F1:=hid ((((Fr.refl [] w).alloc (.cells #[.slice z s.slots.length x,.slice u s.segs.length y] 42)).alloc (.cells #[.slice none 0 0,.slice none 0 0] 42)).alloc (.cells yRza 27));have W1:=hid (((Whole.new w 42 [.slice z s.slots.length x,.slice u s.segs.length y]).alloc (.cells #[.slice none 0 0,.slice none 0 0] 42)).alloc (.cells yRza 27))
 have V1:=hid (show Whole (((w.alloc (.cells #[.slice z s.slots.length x,.slice u s.segs.length y] 42)).alloc (.cells #[.slice none 0 0,.slice none 0 0] 42)).alloc (.cells yRza 27)) (w.heap.size+1) 42 [.slice none 0 0,.slice none 0 0] from by
  have:=(Whole.new (w.alloc (.cells #[.slice z s.slots.length x,.slice u s.segs.length y] 42)) 42 [.slice none 0 0,.slice none 0 0]).alloc (.cells yRza 27);simpa using this)
 have Q1:=hid (show Whole (((w.alloc (.cells #[.slice z s.slots.length x,.slice u s.segs.length y] 42)).alloc (.cells #[.slice none 0 0,.slice none 0 0] 42)).alloc (.cells yRza 27)) (w.heap.size+1+1) 27 yRzl from by
  have:=Whole.new ((w.alloc (.cells #[.slice z s.slots.length x,.slice u s.segs.length y] 42)).alloc (.cells #[.slice none 0 0,.slice none 0 0] 42)) 27 yRzl;simpa using this)
 obtain⟨K,Y⟩:=two W1.o;clear h1 D hr ok h0;go_enter func26,ntmps26;go_wp2_with fail;refine(CK.o _ F1.o).mono ?_;rintro e2 w2 ⟨rfl,C⟩;have E:=hid (F1.o.trans C);have U:=hid (W1.o.fr C (by simp));have V2:=hid (V1.o.fr C (by simp));have Q2:=hid (Q1.o.fr C (by simp));clear C K Y;obtain⟨K,Y⟩:=two U.o;go_wp2_with fail;refine(TM.o _).mono ?_;rintro e3 w3 ⟨rfl,rfl⟩;go_wp2_with fail;refine(RW.o _ E.o).mono ?_;rintro e4 A ⟨u4,x4,rfl,R,T,I⟩;obtain⟨t,m,r,j,rfl⟩:=R.form;obtain⟨g,k,rfl⟩:=T.form;have HU:=hid R;have HX:=hid T;have F4:=hid (E.o.trans I);have H:=hid (V2.o.fr I (by simp));have F:=hid (Q2.o.fr I (by simp));have M:=H.o.lt;have a0:=F.o.lt;clear R T I K Y;obtain⟨Z,P⟩:=two H.o;obtain⟨y0,y1⟩:=zo1 H.o;obtain⟨Q,S,N,X⟩:=four F.o;obtain⟨z0,z1,z2,z3⟩:=z1p F.o;have V6:=hid ((H.o.alloc (.cells #[.slice t (z8i s d.1).slots.length m,.slice r (z8i s d.1).segs.length j] 42)).alloc (.cells (yRa d.2 g k) 27));have Q6:=hid ((F.o.alloc (.cells #[.slice t (z8i s d.1).slots.length m,.slice r (z8i s d.1).segs.length j] 42)).alloc (.cells (yRa d.2 g k) 27));go_upto_region 7 with fail;clear Z P y0 y1 Q S N X z0 z1 z2 z3;obtain⟨Z,P⟩:=two V6.o;obtain⟨y0,y1⟩:=zo1 V6.o;obtain⟨Q,S,N,X⟩:=four Q6.o;obtain⟨z0,z1,z2,z3⟩:=z1p Q6.o;have n1:¬A.heap.size=w.heap.size+1:=by omega
 have n2:¬A.heap.size=w.heap.size+1+1:=by omega
 have n3:¬A.heap.size+1=w.heap.size+1:=by omega
 have n4:¬A.heap.size+1=w.heap.size+1+1:=by omega
 go_region
 all_goals
  go_wp2;refine Xg (v:=.tuple #[.agg #[.slice t (z8i s d.1).slots.length m,.slice r (z8i s d.1).segs.length j],.agg (yRa d.2 g k),.int .i64 0]) (by simp[results,results26,go_sem,Z,P,Q,S,N,X,M,a0]) rfl ?_;have G:w.heap.size+1 < w2.heap.size:=V2.o.lt;have f:w.heap.size+1+1 < w2.heap.size:=Q2.o.lt;have l1:w.heap.size≤w.heap.size+1:=by omega
  have J:w.heap.size≤w.heap.size+1+1:=by omega
  have V:=(((Fr.refl [] A).alloc (.cells #[.slice t (z8i s d.1).slots.length m,.slice r (z8i s d.1).segs.length j] 42)).alloc (.cells (yRa d.2 g k) 27));have U5:=(((((((HU.o.go V).later (p:=⟨w.heap.size+1,0,none⟩) G (.slice t (z8i s d.1).slots.length m)).later (p:=⟨w.heap.size+1,1,none⟩) G (.slice r (z8i s d.1).segs.length j)).later (p:=⟨w.heap.size+1+1,0,none⟩) f (.int .i64 d.2.kind)).later (p:=⟨w.heap.size+1+1,1,none⟩) f (.string d.2.text)).later (p:=⟨w.heap.size+1+1,2,none⟩) f (.int .i64 d.2.n)).later (p:=⟨w.heap.size+1+1,3,none⟩) f (.slice g d.2.list.length k)).less E.o.size;have X5:=(((((((HX.o.fr V).later (p:=⟨w.heap.size+1,0,none⟩) G (.slice t (z8i s d.1).slots.length m)).later (p:=⟨w.heap.size+1,1,none⟩) G (.slice r (z8i s d.1).segs.length j)).later (p:=⟨w.heap.size+1+1,0,none⟩) f (.int .i64 d.2.kind)).later (p:=⟨w.heap.size+1+1,1,none⟩) f (.string d.2.text)).later (p:=⟨w.heap.size+1+1,2,none⟩) f (.int .i64 d.2.n)).later (p:=⟨w.heap.size+1+1,3,none⟩) f (.slice g d.2.list.length k)).base E.o.size;have F5:=(((((((F4.o.trans V).setCell (p:=⟨w.heap.size+1,0,none⟩) (.inr l1) (.slice t (z8i s d.1).slots.length m)).setCell (p:=⟨w.heap.size+1,1,none⟩) (.inr l1) (.slice r (z8i s d.1).segs.length j)).setCell (p:=⟨w.heap.size+1+1,0,none⟩) (.inr J) (.int .i64 d.2.kind)).setCell (p:=⟨w.heap.size+1+1,1,none⟩) (.inr J) (.string d.2.text)).setCell (p:=⟨w.heap.size+1+1,2,none⟩) (.inr J) (.int .i64 d.2.n)).setCell (p:=⟨w.heap.size+1+1,3,none⟩) (.inr J) (.slice g d.2.list.length k));exact⟨_,_,rfl,U5.go ((Fr.refl [] _).drew),X5.fr ((Fr.refl [] _).drew),F5.drew⟩
theorem zgg(s)(sv)(now:Int)(l:YX)(A)(c B:Nat)(w)(ok:z22 s)(h0:0≤now∧now≤1000000)(hl:l.length≤281474976710656)(hv:Vars w)(hB:B≤w.heap.size)(hs:z1f w B sv s)(h:Sl w B 1 (.slice A l.length c) l.length (z03 l)):
  Calls prog 30 #[sv,.int .i64 now,.slice A l.length c] w (zsd s now l w):=by
 by_cases hk:z1x l=0
 ·by_cases hc:c=1
  ·exact zqq s sv now l A c B w ok h0 hk (ztu ok h0) hc hv hB hs h
  ·exact zqr s sv now l A c B w ok h0 hk (ztu ok h0) hc hv hB hs h
 ·exact zua s sv now l A c B w ok hk hl hv hB hs h
def StP(s:Sto)(w:World)(e:Ending)(w':World):Prop:=∃A n R r,e=.returned (.agg #[.slice A s.slots.length n,.slice R s.segs.length r])∧z5p w' w'.heap.size (.agg #[.slice A s.slots.length n,.slice R s.segs.length r]) s∧Fr [] w w'
theorem q4k(w):Calls prog 89 #[] w (StP z4k w):=
 (zwz w).mono fun e w' ⟨u,he,hv,f⟩=>by
  obtain⟨A,n,R,r,rfl⟩:=hv.v.form;exact⟨A,n,R,r,he,hv.v,f⟩
theorem zh9(w)(hv:Vars w):Calls prog 23 #[] w fun e w'=>e=.returned (.bool true)∧Fr [] w w':=by
 have S0:=hid (LC.start hv);clear hv
 have VW:=hid (fun W v (h:z5p W W.heap.size v z4k)=>(show Calls prog 14 #[v] W (VvP z1r 0 W) from by
  have:=zy5 z4k v W (z1k zy6) h;unfold zg7 at this;rw[zfj,Xf rfl,zh6] at this;exact this))
 have VC:=hid (fun W v (h:z5p W W.heap.size v cbC)=>(show Calls prog 14 #[v] W (VvP z1r 0 W) from by
  have:=zy5 cbC v W (z1k (zsg q1e)) h;unfold zg7 at this;rw[q1e,Xf rfl,cb_cv] at this;exact this))
 have CO:=hid (fun W v (h:z5p W W.heap.size v z4k)=>(show Calls prog 15 #[v,.string ⟨#[116]⟩] W (SvP cbA 0 W) from by
  have:=q5f z4k v cbT W (z1k zy6) h;rw[cb_a] at this;exact this))
 have WA:=hid (fun W v (h:z5p W W.heap.size v cbA)=>(show Calls prog 16 #[v,.string ⟨#[108]⟩] W (SvP cbB 0 W) from by
  have:=q5h cbA v cbL W (z1k (zsg q5j)) h;rw[cb_b] at this;exact this))
 have GA:=hid (fun W v (h:z5p W W.heap.size v cbB)=>(show Calls prog 17 #[v,.int .i64 0] W (GvP cbC 2 0 W) from by
  have:=q5g cbB v 0 W (z1k (zsg q5k)) h;rw[cb_c] at this;exact this))
 have CH:=hid (fun W v (h:z5p W W.heap.size v z4k)=>(show Calls prog 24 #[v] W (fun e w'=>e=.returned (.int .i64 0)∧Fr [] W w') from by
  have:=z7h z4k v W _ (z1k zy6) (Xb _) h;rw[zfj] at this;exact this))
 have DO:=hid (fun W v (b:Nat) (hv:Vars W) (h:z5p W W.heap.size v z4k) (hL:Sl W W.heap.size 1 (.slice (some ⟨b,0,none⟩) 3 3) 3 (z03 cbD))=>(show Calls prog 26 #[v,.int .i64 5,.slice (some ⟨b,0,none⟩) 3 3] W (DcP cbE (doR z1r 5 cbD).2 0 W) from by
  have:=zj6 z4k v (.slice (some ⟨b,0,none⟩) 3 3) 5 cbD W _ zy6 (by decide) (by rw[zh6];exact q4j q5o) (Xb _) h (fun W2 sv z B=>by
   rw[zh6] at B ⊢;exact zjp z1r sv 5 cbD (some ⟨b,0,none⟩) 3 W2.heap.size W2 (q4j zic) (by decide) cb_kn cb_cm (q4j q5o) (by decide) (hv.fr z) (Xb _) B ((hL.fr z (Xb _) (by simp)).more z.size))
  rw[zh6] at this;exact this))
 have R:=hid (fun W=>q4k W);have SP:=hid (fun W v u (h:z1f W W.heap.size v z1r) (k:z1f W W.heap.size u z1r)=>zbf _ v u W _ (zwy (q4j zic)) (by decide) (Xb _) h k);have EA:=hid (zvh q5i (i:=0) rfl);have EC:=hid (zvh q5l (i:=1) rfl);have ED:=hid (zvh q5m (i:=0) rfl);have LA:1≤cbA.segs.length:=by have:=congrArg List.length q5i;rw[Xx] at this;rw[this];decide
 have ae:2≤cbC.slots.length:=by have:=congrArg List.length q5l;rw[Xx] at this;rw[this];decide
 have LD:1≤cbE.slots.length:=by have:=congrArg List.length q5m;rw[Xx] at this;rw[this];decide
 have kn:=cb_rn;generalize (doR z1r 5 cbD).2=r at *;generalize cbA=a at *;generalize cbB=b at *;generalize cbC=c at *;generalize cbE=d at *;generalize z4k=s at *;go_enter func23,ntmps23;go_wp2_with fail;refine(R.o _).mono ?_;rintro e w1 ⟨A1,n1,R1,r1,rfl,o1,f1⟩;have S1:=hid ((S0.o.go f1).sto o1);clear o1 f1 S0;have C2:=hid (VW.o _ _ (S1.o.st _ (.head _)));go_wp2_with fail;refine C2.o.mono ?_;rintro e w2 ⟨A2,n2,rfl,o2,z⟩;have S2:=hid ((S1.o.go z).ents o2);clear z S1 C2;go_wp2_with fail;refine(R.o _).mono ?_;rintro e w3 ⟨A3,n3,R3,r3,rfl,o3,f3⟩;have S3:=hid ((S2.o.go f3).sto o3);clear o3 f3 S2;have C4:=hid (CO.o _ _ (S3.o.st _ (.head _)));go_wp2_with fail;refine C4.o.mono ?_;rintro e w4 ⟨A4,n4,R4,r4,rfl,o4,f4⟩;have Q:=hid (((S3.o.go f4).sto o4).box [.slice A4 a.slots.length n4,.slice R4 a.segs.length r4] 42);clear f4 S3 C4;have g4:=z6a (Q.o.bl _ (.head _));have a8:=g4.1;have a4:=g4.2;clear g4;have C5:=hid (WA.o _ _ (Q.o.st _ (.head _)));go_wp2_with fail;refine C5.o.mono ?_;rintro e w5 ⟨A5,n5,R5,r5,rfl,o5,f5⟩;have O:=hid (((Q.o.go f5).sto o5).box [.slice A5 b.slots.length n5,.slice R5 b.segs.length r5] 42);clear f5 Q C5;clear a8 a4;have g5:=z6a (O.o.bl _ (.head _));have a9:=g5.1;have a0:=g5.2;clear g5;have C6:=hid (GA.o _ _ (O.o.st _ (.head _)));go_wp2_with fail;refine C6.o.mono ?_;rintro e w6 ⟨A6,n6,R6,r6,rfl,o6,f6⟩;have S6:=hid (((O.o.go f6).sto o6).box [.slice A6 c.slots.length n6,.slice R6 c.segs.length r6] 42);clear f6 O C6;clear a9 a0;go_wp2_with fail;refine(R.o _).mono ?_;rintro e w7 ⟨A7,n7,R7,r7,rfl,o7,f7⟩;have S7:=hid ((S6.o.go f7).sto o7);clear o7 f7 S6;have H:=hid (S7.o.lit3 ⟨#[114,112,117,115,104]⟩ ⟨#[108]⟩ ⟨#[122]⟩);have C8:=hid (DO.o _ _ _ H.o.v (H.o.st _ (.head _)) (H.o.rs _ (.head _)));go_wp2_with fail;refine C8.o.mono ?_;rintro e w8 ⟨u8,v8,rfl,o8,q8,f8⟩;obtain⟨A8,n8,R8,r8,rfl⟩:=o8.v.form;obtain⟨X8,x8,rfl⟩:=q8.form;have P:=hid ((((H.o.go f8).sto o8.v).box [.slice A8 d.slots.length n8,.slice R8 d.segs.length r8] 42).box (yRl r X8 x8) 27);clear o8 q8 f8 S7 H C8;have Z:=z6a (P.o.bl _ (.tail _ (.tail _ (.head _))));have X:=Z.1;have T:=Z.2;clear Z;have C9:=hid (VC.o _ _ (P.o.st _ (.tail _ (.tail _ (.head _)))));go_wp2_with fail;refine C9.o.mono ?_;rintro e w9 ⟨A9,n9,rfl,o9,f9⟩;have S9:=hid ((P.o.go f9).ents o9);clear f9 P C9;clear X T;go_wp2_with fail;refine(R.o _).mono ?_;rintro e av ⟨aj,ak,ax,ao,rfl,F,M⟩;have t:=hid ((S9.o.go M).sto F);clear F M S9;have K:=hid (CH.o _ _ (t.o.st _ (.head _)));go_wp2_with fail;refine K.o.mono ?_;rintro e al ⟨rfl,D⟩;have G:=hid (t.o.go D);clear D t K;go_wp2_with fail;refine(z7c _).mono ?_;rintro e ay ⟨ad,rfl,x,C⟩;obtain⟨am,aw,rfl⟩:=x.form;have l:=hid ((G.o.go C).ents x.v);clear x C G;have J:=hid (SP.o _ _ _ (l.o.es _ (.tail _ (.tail _ (.head _)))) (l.o.es _ (.head _)));go_wp2_with fail;refine J.o.mono ?_;rintro e ap ⟨rfl,N⟩;have L:=hid (l.o.go N);clear N l J;go_wp2_with fail;refine(z7c _).mono ?_;rintro e aq ⟨au,rfl,y,I⟩;obtain⟨ai,af,rfl⟩:=y.form;have j:=hid ((L.o.go I).ents y.v);clear y I L
 have A:=hid (SP.o _ _ _ (j.o.es _ (.tail _ (.tail _ (.head _)))) (j.o.es _ (.head _)));go_wp2_with fail;refine A.o.mono ?_;rintro e a2 ⟨rfl,E⟩;have g:=hid (j.o.go E);clear E j A;have sa:=g.o.st _ (.tail _ (.tail _ (.tail _ (.tail _ (.tail _ (.head _))))));have sc:=g.o.st _ (.tail _ (.tail _ (.tail _ (.head _))));have sd:=g.o.st _ (.tail _ (.head _));have Y:=z6a (g.o.bl _ (.tail _ (.tail _ (.tail _ (.tail _ (.head _))))));have gc:=z6a (g.o.bl _ (.tail _ (.tail _ (.head _))));have gd:=z6a (g.o.bl _ (.tail _ (.head _)))
 have rb:Whole a2 (w8.heap.size+1) 27 (yRl r X8 x8):=by
  have:=g.o.bl _ (.head _);simpa using this
 obtain⟨q0,q1,q2,q3⟩:=four rb;obtain⟨_,_,ea,-,ha⟩:=sa;cases ea;obtain⟨_,_,ec,hc,-⟩:=sc;cases ec;obtain⟨_,_,ed,hd,-⟩:=sd;cases ed;obtain⟨ba,oa,rfl,-,ma,a6,m⟩:=ha.at_ (by omega);obtain⟨bc,oc,rfl,-,mc,a7,n⟩:=hc.at_ (by omega);obtain⟨bd,od,rfl,-,md,U,p⟩:=hd.at_ (by omega);obtain⟨xa,ab,a1⟩:=EA.o;obtain⟨xc,ac,aa⟩:=EC.o;obtain⟨xd,a3,S⟩:=ED.o;obtain⟨ya,na,ka,-⟩:=m 0 xa ab;obtain⟨_,_,_,_,_,_,kc⟩:=n 1 xc ac;obtain⟨_,_,_,_,_,_,kd⟩:=p 0 xd a3;have a5:=kc.k8;have V:=kd.k1;rw[a1,Ye] at ka;rw[aa] at a5;rw[S,Jv,Ye] at V;have an:=Y.1;have ar:=Y.2;have ah:=gc.1;have ag:=gd.1;unfold maxLen at a6 a7 U;clear m n p kc kd ha hc hd Y gc gd;go_wp2;go_ret;exact⟨rfl,g.o.f⟩
def doE(s:List Ent)(now:Int):Int:=if z1z s≠0 then z1z s else if z30 now=false then 3 else 0
def doS(s:List Ent)(now:Int)(l:YX):List Ent:=if doE s now=0 then (doR s now l).1 else []
def doV(s:List Ent)(now:Int)(l:YX):Rep:=if doE s now=0 then (doR s now l).2 else zeroR
def DoQ(s:List Ent)(r:Rep)(c:Int)(w:World)(e:Ending)(w':World):Prop:=
 ∃u v,e=.returned (.tuple #[u,v,.int .i64 c])∧z2a w' w.heap.size u s∧z1i w' w.heap.size v r∧Fr [] w w'
theorem q1i{s:List Ent}{now:Int}(ok:z22 s)(h:0≤now∧now≤1000000):doE s now=0:=by
 unfold doE;rw[Xc (by simpa using zwx ok),Xc (by unfold z30;rw[Xi h.1,Xi h.2];decide)]
theorem zu9(s)(sv)(now:Int)(l:YX)(A)(c B:Nat)(w)(hs:∀e∈s,e.Small)(hsl:s.length≤281474976710656)(hl:l.length≤281474976710656)(hv:Vars w)(hB:B≤w.heap.size)(h:z1f w B sv s)(hL:Sl w B 1 (.slice A l.length c) l.length (z03 l)):
  Calls prog 6 #[sv,.int .i64 now,.slice A l.length c] w (DoQ (doS s now l) (doV s now l) (doE s now) w):=by
 have m:=hid ((Fr.refl [] w).alloc (.cells yRza 27));have T:=hid (Whole.new w 27 yRzl);have L:=hid (fun W (hW:Fr [] w W)=>z9v s sv W B hs hsl (Xd hB hW.size) (h.fr hW hB (by simp)));have z:=hid (fun W=>z9m now W);obtain⟨n,g⟩:∃n,n=l.length:=⟨_,rfl⟩;by_cases hc:z1z s=0
 ·rw[hc] at L;by_cases ht:z30 now=true;have b:=hid trivial
  all_goals
   first
   | (guard_hyp b
      rw[ht] at z;have M:=q4j hc;have H:0≤now∧now≤1000000:=by unfold z30 at ht;simpa using ht
      have p:=hid (fun W (hW:Fr [] w W)=>zgg s sv now l A c B W M H hl (hv.fr hW) (Xd hB hW.size) (h.fr hW hB (by simp)) (hL.fr hW hB (by simp)));have P:=q1i M H;have GD:=hid (zz1 s now l);unfold doS doV;rw[P,Xf rfl,Xf rfl];unfold zsd at p;rw[←g] at p ⊢;clear h hL hs hsl hl hv hc ht M H P g;generalize doR s now l=pp at *;obtain⟨ps,a⟩:=pp;simp only at p GD ⊢)
   | (have K:z30 now=false:=by simpa using ht
      rw[K] at z;have Z:doE s now=3:=by unfold doE;rw[Xc (by simpa using hc),Xf K]
      unfold doS doV;rw[Z,Xc (by decide),Xc (by decide)];rw[←g];clear h hL hs hsl hl hv hc ht K Z g)
   go_enter func6,ntmps6;go_wp2_with fail;refine(L.o _ m.o).mono ?_;rintro y w1 ⟨rfl,d⟩;have f:=hid (m.o.trans d);have j:=hid (T.o.f0 d);clear d;go_wp2_with fail;refine(z.o _).mono ?_;rintro e2 w2 ⟨rfl,rfl⟩
   first
   | (guard_hyp b
      go_wp2_with fail;refine(p.o _ f.o).mono ?_;rintro e5 C ⟨u,v,rfl,O,hr,N⟩;obtain⟨UA,uc,rfl⟩:=O.form;obtain⟨R,k,rfl⟩:=hr.form;have hz1:=f.o.size;have HU:=hid (O.base hz1);have HR:=hid (hr.base hz1);have G:=hid (j.o.f0 N);have F5:=hid (f.o.trans N);clear O hr N;have R6:=hid (Whole.new C 27 (yRl a R k));have r:=hid ((Fr.refl [] C).alloc (.cells (yRa a R k) 27));have F6:=hid (F5.o.trans r.o);have x:=hid (G.o.f0 r.o);have E:=hid (HU.o.fr r.o);have I:=hid (HR.o.fr r.o);have Y:¬w.heap.size=C.heap.size:=by have:=G.o.lt;omega
      have U:¬C.heap.size=w.heap.size:=by have:=G.o.lt;omega
      obtain⟨r0,r1,r2,r3⟩:=four R6.o;obtain⟨F,t,D,J⟩:=four x.o;obtain⟨X,S,Q,V⟩:=z1p x.o;go_upto_region 7 with fail
      go_region
      go_wp2;refine Xg (v:=.tuple #[.slice UA ps.length uc,.agg (yRa a R k),.int .i64 0]) (by simp[results,results6,go_sem,F,t,D,J]) rfl ?_;exact⟨_,_,rfl,(E.o.set4W x.o (.int .i64 a.kind) (.string a.text) (.int .i64 a.n) (.slice R a.list.length k)).fr (Fr.refl [] _).drew,(z4w I.o GD.o x.o (.int .i64 a.kind) (.string a.text) (.int .i64 a.n) (.slice R a.list.length k)).fr (Fr.refl [] _).drew,(z2d F6.o (Xb _) (.int .i64 a.kind) (.string a.text) (.int .i64 a.n) (.slice R a.list.length k)).trans (Fr.refl [] _).drew⟩)
   | (obtain⟨F,t,D,J⟩:=four j.o
      obtain⟨X,S,Q,V⟩:=z1p j.o;go_wp2;refine Xg (v:=.tuple #[.slice none 0 0,.agg yRza,.int .i64 3]) (by simp[results,results6,go_sem,F,t,D,J]) rfl ?_;exact⟨_,_,rfl,z2a.nil _ _,z1i.bare _ _ _ _ _,z2d f.o (Xb _) _ _ _ _⟩)
 ·have t:(z1z s==0)=false:=by simpa using hc
  have D:(z1z s != 0)=true:=by simpa using hc
  have y:doE s now=z1z s:=by unfold doE;rw[Xf hc]
  unfold doS doV;rw[y,Xc hc,Xc hc];rw[←g];clear h hL hs hsl hl hv hc y g z;generalize z1z s=ec at *;go_enter func6,ntmps6;go_wp2_with fail;refine(L.o _ m.o).mono ?_;rintro y w1 ⟨rfl,d⟩;have f:=hid (m.o.trans d);have j:=hid (T.o.f0 d);clear d;obtain⟨y0,y1,y2,y3⟩:=four j.o;obtain⟨X,S,Q,V⟩:=z1p j.o;go_wp2;refine Xg (v:=.tuple #[.slice none 0 0,.agg yRza,.int .i64 ec]) (by simp[results,results6,go_sem,y0,y1,y2,y3]) rfl ?_;exact⟨_,_,rfl,z2a.nil _ _,z1i.bare _ _ _ _ _,z2d f.o (Xb _) _ _ _ _⟩
theorem zzh{n:Int}(h1:-999999999≤n)(h2:n≤999999999):z0o n=true:=by
 unfold z0o;rw[Xi h1,Xi h2];rfl
theorem q4y:(⟨#[]⟩:YY)=ByteArray.empty:=rfl
theorem zwo{n:Int}(h:z0o n=true):z1h (z0s n)=0:=by
 show z3z ⟨3,⟨#[]⟩,n,0⟩=0;unfold z3z;simp[h,q4y]
theorem z6m{n:Int}(h1:-1000000≤n)(h2:n≤1000000):z1h (z0s n)=0:=zwo (zzh (by omega) (by omega))
theorem zi8{s:YY}(h:s.size≤60):z1h (z1s s)=0:=by
 show z3z ⟨4,s,0,0⟩=0;unfold z3z;simp;omega
theorem zi6{e:Int}(h:1≤e∧e≤8):z1h (z8t e)=0:=by
 show z3z ⟨2,⟨#[]⟩,e,0⟩=0;unfold z3z;simp[q4y];omega
theorem zwn:z1h zhv=0:=by decide
theorem q6r:z1h (z4b tOK)=0:=by decide
theorem q4i:z1h (z4b q4l)=0:=by decide
theorem q4h(k:Int):z1h (z4b (zmw k))=0:=by
 unfold zmw
 repeat' split
 all_goals decide
theorem zc8{l:YX}(hl:l.length≤300)(ht:∀s∈l,s.size≤60):z1h (z2h l)=0:=by
 unfold z1h z2h;rw[Xc (by simp),Xc (by simp[q4y]),Xc (by simp;omega)];refine zeg fun x a=>?_;obtain⟨s,hs,rfl⟩:=Yt.1 a;have:=ht s hs;unfold z3z;simp;omega
abbrev Cd(e:Int):Prop:=0≤e∧e≤8
theorem q6n(s)(now:Int)(k)(y)(u:Int):z2r s now k y u=0∨z2r s now k y u=2:=by
 unfold z2r
 repeat' split
 all_goals simp
theorem z1o{s:List Ent}{now:Int}{key:YY}{y:Itm}{til:Int}{chg nn:Bool}{e:Int}{r:Rep}(hr:e=0→z1h r=0)(he:Cd e):z1h (fin s now key y til chg nn e r).2=0:=by
 unfold fin;by_cases h0:e=0
 ·rw[Xf h0];by_cases hc:chg=true
  ·rw[Xf hc];by_cases hp:z2r s now key y til=0
   ·rw[Xf hp];exact hr h0
   ·rw[Xc hp];rcases q6n s now key y til with h|h
    ·exact absurd h hp
    ·show z1h (z8t (z2r s now key y til))=0;rw[h];exact zi6 (by decide)
  ·rw[Xc hc];exact hr h0
 ·rw[Xc h0];split
  ·exact zwn
  ·unfold Cd at he;exact zi6 (by omega)
structure BdI(x:Itm):Prop where
 text:x.text.size≤60
 list:x.list.length≤24
 pairs:x.pairs.length≤24
 scores:x.scores.length≤24
 texts:∀s∈x.list,s.size≤60
 fields:∀p∈x.pairs,p.1.size≤60∧p.2.size≤60
 members:∀p∈x.scores,z0o p.1=true∧p.2.size≤60
theorem q27{x:Itm}(h:OkI x):BdI x:=by
 rcases h with h|h
 ·have r:=z2t h;have a:=r.many;unfold many at a;exact⟨r.text,by omega,by omega,by omega,r.texts,r.fields,r.members⟩
 ·rw[zeq h];exact⟨by decide,by decide,by decide,by decide,fun s hs=>(by cases hs),fun s hs=>(by cases hs),fun s hs=>(by cases hs)⟩
theorem z5h{x:Itm}(h:OkI x)(k:Int):Cd (z02 k x):=by
 unfold z02 Cd;by_cases hn:z0v x=true
 ·rw[Xf hn];decide
 ·rw[Xc hn];rcases h with h|h
  ·rw[Xf h];split <;> decide
  ·exact absurd h hn
theorem cd_ap{x:Itm}(h:OkI x)(s):Cd (z4d x s):=by
 have:=z5h h 1;unfold z4d
 repeat' split
 all_goals first|exact this|decide
theorem cd_ad{x:Itm}(h:OkI x)(n:Int):Cd (z4p x n):=by
 have:=z5h h 1;unfold z4p
 repeat' split
 all_goals first|exact this|decide
theorem zt6(l):Cd (z1a l):=by
 unfold z1a
 repeat' split
 all_goals decide
theorem zt4{x:Itm}(h:OkI x)(l):Cd (z18 x l):=by
 have:=z5h h 2;have a:=zt6 l;unfold z18
 repeat' split
 all_goals first|exact this|exact a|decide
theorem q1f{x:Itm}(h:OkI x):Cd (z1q x):=by
 have:=z5h h 2;unfold z1q
 repeat' split
 all_goals first|exact this|decide
theorem q2a{x:Itm}(h:OkI x)(l):Cd (zgb x l):=by
 have:=z5h h 3;have a:=zt6 l;unfold zgb zpp
 repeat' split
 all_goals first|exact this|exact a|decide
theorem zoh(k:Int):∀ {l:List Itm},(∀x∈l,OkI x)→Cd (z39 k l)
 | [],_=>by show Cd 0;decide
 | x :: l,h=>by
  unfold z39;split
  ·exact z5h (h x (.head _)) k
  ·exact zoh k fun y hy=>h y (.tail _ hy)
theorem zh7{l:List Itm}(h:∀x∈l,OkI x):Cd (z13 l):=by
 have:=zoh 3 h;unfold z13;split
 ·decide
 ·exact this
theorem q2d{x:Itm}(h:OkI x)(l:List (YY×YY)):Cd (z23 x l):=by
 have:=z5h h 4;unfold z23 z1y
 repeat' split
 all_goals first|exact this|decide
theorem q5p{x:Itm}(h:OkI x)(f):Cd (z5z x f):=by
 have:=z5h h 4;unfold z5z
 repeat' split
 all_goals first|exact this|decide
theorem zoi:∀(l:List (Int×YY)),Cd (zd7 l)
 | []=>by decide
 | s :: r=>by
  have:=zoi r;unfold zd7
  repeat' split
  all_goals first|exact this|decide
theorem q2c{x:Itm}(h:OkI x)(l:List (Int×YY)):Cd (zf1 x l):=by
 have:=z5h h 5;have a:=zoi l;unfold zf1 zpq z4z
 repeat' split
 all_goals first|exact this|exact a|decide
theorem zt5{x:Itm}(h:OkI x)(m):Cd (z16 x m):=by
 have:=z5h h 5;unfold z16
 repeat' split
 all_goals first|exact this|decide
theorem q2b(p):Cd (z0z p):=by
 unfold z0z
 repeat' split
 all_goals decide
theorem q5s(now:Int):∀(l) (s) (n:Nat),(zje now l s n).2≤n+l.length
 | [],_,n=>Xb _
 | k :: l,s,n=>by
  unfold zje;have:=q5s now l (zb7 s now k (z2q 0) 0) (n+if zbl s now k=true then 1 else 0);rw[Xy];have hd:(if zbl s now k=true then 1 else 0)≤1:=by split <;> omega
  generalize (if zbl s now k=true then 1 else 0)=d at *;omega
theorem zss:∀ {l:List Itm},(∀x∈l,OkI x)→(zcy l).length≤24 * l.length∧∀s∈zcy l,s.size≤60
 | [],_=>⟨Xb _,fun s hs=>by cases hs⟩
 | x :: l,h=>by
  obtain⟨h1,h2⟩:=zss (l:=l) fun y hy=>h y (.tail _ hy);have b:=q27 (h x (.head _));have e:zcy (x :: l)=x.list++zcy l:=by unfold zcy;rw[Ul]
  rw[e];refine⟨?_,fun s hs=>?_⟩
  ·have:=b.list;rw[Xk,Xy];omega
  ·rcases Ys.1 hs with hs|hs
   ·exact b.texts s hs
   ·exact h2 s hs
theorem zi7{l:List Itm}(h:∀x∈l,OkI x)(hl:l.length≤11)(p:Nat→Bool→Bool):z1h (z2h (z2x p l))=0:=by
 obtain⟨b,a⟩:=zss h;unfold z2x;split
 ·refine zc8 ?_ (fun s hs=>a s (Yj.1 (z9h.1 hs)).1);have:=zbh ((zcy l).filter (pick p l));have:=Xv (pick p l) (zcy l);omega
 ·exact zc8 (by simp) (fun s hs=>by cases hs)
theorem zzi{s:List Ent}(ok:z22 s)(now:Int)(l):∀x∈z09 s now l,OkI x:=fun x hx=>by
 obtain⟨k,_,rfl⟩:=Yt.1 hx;exact zhp ok now k
theorem q0f{x:Itm}{left:Bool}{l:YX}(h:z18 x l=0):(z8m x left l).length≤24:=by
 unfold z18 at h;rw[z4v];split at h
 ·rename_i ha;exact absurd h ha
 ·split at h
  ·rename_i ha;exact absurd h ha
  ·split at h
   ·cases h
   ·omega
theorem zwp{x:Itm}(left:Bool)(l):z1h (z0s (zg1 x left l))=0:=by
 unfold zg1;split
 ·rename_i h;have:=q0f (left:=left) h;exact z6m (by omega) (by omega)
 ·decide
theorem zui{l:YX}(h:∀s∈l,s.size≤60)(i:Nat):(l.getD i ⟨#[]⟩).size≤60:=by
 rw[Xs];rcases hq:l[i]? with _|s
 ·decide
 ·exact h s (Xj hq)
theorem q1u{x:Itm}(h:OkI x)(left:Bool):z1h (z1s (zxi x left))=0:=by
 have b:=q27 h;unfold zxi q6l;split
 ·exact zi8 (zui b.texts _)
 ·decide
theorem q6t(n:Nat)(a b:Int):z6y n a b - z6x n a b≤n:=by
 have:=z6z n a b;omega
theorem zps{l:YX}(hl:l.length≤24)(ht:∀s∈l,s.size≤60)(a b:Int):z1h (z2h (z28 l a b))=0:=by
 have:=q6t l.length a b;exact zc8 (by rw[z2p];omega) (fun s hs=>ht s (z81 hs))
theorem ztt(c:Cm){s:List Ent}{now:Int}{l:YX}(ok:z22 s)(h0:0≤now∧now≤1000000)(hz:∀t∈l,t.size≤60)(hl:l.length≤12):z1h (doC c s now l).2=0:=by
 have r:∀i,(wd l i).size≤60:=zfl hz;have b:=zhp ok now (wd l 1);have d:=q27 b;have j:=zki ok now (wd l 1);have hi:=zzi ok now (l.drop 1);have f:(z09 s now (l.drop 1)).length≤11:=by unfold z09;rw[Xx,Xr];omega
 cases c
 case ping=>exact q4i
 case get=>
  simp only[doC];split
  ·exact z1o (fun _=>zwn) (z5h b 1)
  ·exact z1o (fun _=>zi8 d.text) (z5h b 1)
 case set_=>exact z1o (fun _=>q6r) (by decide)
 case append_=>
  refine z1o (fun a=>?_) (cd_ap b _);unfold apN;rw[Xf a];have w:=r 2;have h3:=d.text;exact z6m (by omega) (by omega)
 case strlen=>
  refine z1o (fun a=>?_) (z5h b 1);unfold lnN;rw[Xf a];have h3:=d.text;exact z6m (by omega) (by omega)
 case incrby=>
  refine z1o (fun a=>?_) (cd_ad b _);unfold adN;rw[Xf a];exact zwo (adOk a)
 case getrange=>
  refine z1o (fun a=>?_) (z5h b 1);unfold rgS;rw[Xf a];refine zi8 ?_;have h3:=d.text;rw[ByteArray.size_extract];omega
 case del=>
  show z1h (z0s _)=0;have:=q5s now (l.drop 1) s 0;rw[Xr] at this;exact z6m (by omega) (by omega)
 case exists_=>
  show z1h (z0s _)=0;have:=Xv (fun k=>zbl s now k) (l.drop 1);rw[Xr] at this;exact z6m (by omega) (by omega)
 case type_=>exact q4h _
 case keys_=>
  refine z1o (fun a=>?_) (q2b _);have g:=zpb s s.length now (wd l 1);rw[Ym] at g;have:=ok.le;refine zc8 (by omega) (fun t j=>?_);obtain⟨e,a,rfl⟩:=Yt.1 j;exact ok.keys e (Yj.1 a).1
 case expire=>
  simp only[doC];split
  ·show z1h (z0s 0)=0;decide
  ·split
   ·exact z1o (fun _=>by decide) (by decide)
   ·exact z1o (fun _=>by decide) (by split <;> decide)
 case ttl=>
  have h3:-1000000≤(z00 s now (wd l 1)).til - now∧(z00 s now (wd l 1)).til - now≤1000000:=by omega
  show z1h (z0s (if _ then _ else if _ then _ else _))=0;split
  ·decide
  ·split
   ·decide
   ·exact z6m h3.1 h3.2
 case persist=>
  simp only[doC];split
  ·show z1h (z0s 0)=0;decide
  ·exact z1o (fun _=>by decide) (by decide)
 case lpush=>exact z1o (fun _=>zwp _ _) (zt4 b _)
 case rpush=>exact z1o (fun _=>zwp _ _) (zt4 b _)
 case lpop=>exact z1o (fun _=>q1u b _) (q1f b)
 case rpop=>exact z1o (fun _=>q1u b _) (q1f b)
 case lrange=>exact z1o (fun _=>zps d.list d.texts _ _) (z5h b 2)
 case ltrim=>exact z1o (fun _=>q6r) (z5h b 2)
 case lrem=>
  refine z1o (fun a=>?_) (z5h b 2);unfold q51;rw[Xf a];have g:(zry (z00 s now (wd l 1)).item (wd l 2)).length≤(z00 s now (wd l 1)).item.list.length:=Xv _ _;have:=d.list;exact z6m (by omega) (by omega)
 case sadd=>
  refine z1o (fun a=>?_) (q2a b _);unfold ziy;rw[Xf a];have g:=(zm2 a).2;have:=d.list;exact z6m (by omega) (by omega)
 case srem=>
  refine z1o (fun a=>?_) (z5h b 3);unfold zf7;rw[Xf a];have g:(za2 (z00 s now (wd l 1)).item.list (l.drop 2)).length≤(z00 s now (wd l 1)).item.list.length:=Xv _ _;have:=d.list;exact z6m (by omega) (by omega)
 case sismember=>exact z1o (fun _=>by split <;> decide) (z5h b 3)
 case smembers=>exact z1o (fun _=>zi7 hi f _) (zh7 hi)
 case sunion=>exact z1o (fun _=>zi7 hi f _) (zh7 hi)
 case sinter=>exact z1o (fun _=>zi7 hi f _) (zh7 hi)
 case sdiff=>exact z1o (fun _=>zi7 hi f _) (zh7 hi)
 case hset=>
  refine z1o (fun a=>?_) (q2d b _);unfold q1t;rw[Xf a];unfold z23 at a;split at a
  ·rename_i ha;exact absurd a ha
  ·split at a
   ·cases a
   ·have:=d.pairs;exact z6m (by omega) (by omega)
 case hget=>
  refine z1o (fun a=>?_) (q5p b _);unfold zxf;split
  ·decide
  ·split
   ·rename_i q m;exact zi8 (d.fields q (zhk Prod.fst m).1).2
   ·decide
 case hdel=>
  refine z1o (fun a=>?_) (z5h b 4);unfold zjk;rw[Xf a];have g:(zbt (z00 s now (wd l 1)).item (l.drop 2)).length≤(z00 s now (wd l 1)).item.pairs.length:=Xv _ _;have:=d.pairs;exact z6m (by omega) (by omega)
 case hgetall=>
  refine z1o (fun a=>?_) (z5h b 4)
  have e:∀(q:List (YY×YY)),(q.flatMap fun p=>[p.1,p.2]).length=2 * q.length:=fun q=>by
   induction q with
   | nil=>rfl
   | cons p q ih=>rw[Ul,Xk,ih,Xy];simp;omega
  have:=d.pairs;refine zc8 (by rw[e];omega) (fun t j=>?_);obtain⟨p,u,n⟩:=List.mem_flatMap.1 j;have:=d.fields p u;rcases Yh.1 n with rfl|n
  ·exact this.1
  ·rw[Uw.1 n];exact this.2
 case zadd=>
  refine z1o (fun a=>?_) (q2c b _);unfold zl1;rw[Xf a];unfold zf1 at a;split at a
  ·rename_i ha;exact absurd a ha
  ·split at a
   ·cases a
   ·have:=d.scores;exact z6m (by omega) (by omega)
 case zrem=>
  refine z1o (fun a=>?_) (z5h b 5);unfold zdx;rw[Xf a];have g:(z9z (z00 s now (wd l 1)).item (l.drop 2)).length≤(z00 s now (wd l 1)).item.scores.length:=Xv _ _;have:=d.scores;exact z6m (by omega) (by omega)
 case zscore=>
  refine z1o (fun a=>?_) (zt5 b _);unfold zvo;rw[Xf a,Xs];rcases m:(z00 s now (wd l 1)).item.scores[(z82 (z00 s now (wd l 1)).item (wd l 2)).toNat]? with _|q
  ·decide
  ·exact zwo (d.members q (Xj m)).1
 case zrank=>
  refine z1o (fun a=>?_) (zt5 b _);unfold zba;rw[Xf a]
  have hr:-1≤z82 (z00 s now (wd l 1)).item (wd l 2)∧z82 (z00 s now (wd l 1)).item (wd l 2)≤24:=by
   unfold z82;rcases ze5 (wd l 2) (z00 s now (wd l 1)).item.scores with⟨h,_⟩|⟨k,q,h,hk,_,_⟩
   ·rw[h];omega
   ·rw[h];have g:=(Xe.1 hk).1;have:=d.scores;omega
  exact z6m (by omega) (by omega)
 case zrange=>
  refine z1o (fun a=>?_) (z5h b 5);unfold z79;rw[Xf a];refine zps (by rw[Xx];exact d.scores) (fun t j=>?_) _ _;obtain⟨q,m,rfl⟩:=Yt.1 j;exact(d.members q m).2
 case zrangebyscore=>
  refine z1o (fun a=>?_) (z5h b 5);unfold z52;rw[Xf a];unfold z8c;have g:=Xv (fun s:Int×YY=>decide (wn l 2≤s.1)&&decide (s.1≤wn l 3)) (z00 s now (wd l 1)).item.scores;have:=d.scores;refine zc8 (by rw[Xx];omega) (fun t j=>?_);obtain⟨q,m,rfl⟩:=Yt.1 j;exact(d.members q (Yj.1 m).1).2
theorem zzm{l:YX}(h:z1x l≠0):1≤z1x l∧z1x l≤8:=by
 have a:z10 l=0∨z10 l=1∨z10 l=2:=by
  unfold z10
  repeat' split
  all_goals simp
 unfold z1x at *
 repeat' split
 all_goals first|omega|(simp_all;done)|(simp_all;omega)
theorem ztv{s:List Ent}{now:Int}{l:YX}(ok:z22 s)(h0:0≤now∧now≤1000000):z1h (doR s now l).2=0:=by
 unfold doR;by_cases hk:z1x l=0
 ·rw[Xc (by simpa using hk)]
  have a:l.length≤12:=by
   obtain⟨d,e,c,rfl,_,_,b⟩:=zed hk;have:=b.le;rw[Xy];omega
  split
  ·show z1h (z8t 5)=0;exact zi6 (by decide)
  ·exact ztt _ ok h0 (zgy hk) a
 ·rw[Xf hk];exact zi6 (zzm hk)
end
end Go.Proofs.YtnmoajaelmimnaaGreatDoor
