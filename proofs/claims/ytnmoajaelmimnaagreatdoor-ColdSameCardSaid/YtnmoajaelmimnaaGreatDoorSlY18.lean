/- Contracts; no condition but each theorem's own. -/
import Derived.Test.YtnmoajaelmimnaaGreatDoorSlY16
set_option linter.unusedVariables false
set_option linter.unusedSimpArgs false
set_option maxHeartbeats 8000000
set_option maxRecDepth 100000
namespace Go.Proofs.YtnmoajaelmimnaaGreatDoor
open Go.Proofs.Tryz
section
open Go.RowKit
theorem ze6(l:List (Int×YY))(p:Int×YY)(i:Nat):z15 (z06 l) [.int .i64 p.1,.string p.2] (i * 2)=z06 (l.take i++p :: l.drop i):=by
 have h:z06 l=z06 (l.take i)++z06 (l.drop i):=by rw[←z3s,Uk]
 have a:(z06 l).drop (i * 2)=z06 (l.drop i):=by
  have e:=Uk (i * 2) (z06 l);rw[z47] at e;exact Js (e.trans h)
 unfold z15;rw[z47,a,show p :: l.drop i=[p]++l.drop i from rfl,z3s,z3s];simp[z06]
theorem zdw(l:List (Int×YY))(i:Nat):(z06 l).take (i * 2)++(z06 l).drop ((i+1) * 2)=z06 (l.take i++l.drop (i+1)):=by
 have h:z06 l=z06 (l.take (i+1))++z06 (l.drop (i+1)):=by rw[←z3s,Uk]
 have a:(z06 l).drop ((i+1) * 2)=z06 (l.drop (i+1)):=by
  have e:=Uk ((i+1) * 2) (z06 l);rw[z47] at e;exact Js (e.trans h)
 rw[z47,a,z3s]
theorem zlb(x:Itm)(v)(l:List (Int×YY))(Al)(cl:Nat)(w:World)(B:Nat)(hs:x.Small)(hB:B≤w.heap.size)(h:z0p w B v x)(hl:(24+l.length) * 24≤140737488355328)(hL:Sl w B 2 (.slice Al l.length cl) l.length (z06 l)):
  Calls prog 225 #[v,.slice Al l.length cl] w (z57 (zl1 x l) (zf1 x l) (zd2 x l) w):=by
 have RD:=hid (fun W (hf:Fr [] w W)=>z9g x v W B hs (Xd hB hf.size) (h.fr hf hB (by simp)));have SM:=hid (fun W (hf:Fr [] w W)=>zie l Al cl W B (by omega) (Xd hB hf.size) (hL.fr hf hB (by simp)));have HL:=hid hL;obtain⟨A1,c1,A2,c2,A3,c3,rfl,h1,h2,h3⟩:=h;have H3:=hid h3;have D0:=hid (BO.new w (.int .i64 x.kind) (.string x.text) (.slice A1 x.list.length c1) (.slice A2 x.pairs.length c2) (.slice A3 x.scores.length c3));obtain⟨Y,d1,S,Z,d4⟩:=five D0.o.b;have EC:=hid (show zf1 x l=if zpq x l≠0 then zpq x l else if 24 < (zf2 x l).length then 2 else 0 from rfl);have EP:=hid (show zpq x l=if z02 5 x≠0 then z02 5 x else z4z l from rfl);have EY:=hid (show zd2 x l=if zf1 x l=0 then ofC (zf2 x l) else z2q 0 from rfl);have EK:=hid (show zl1 x l=if zf1 x l=0 then ((zf2 x l).length:Int) - x.scores.length else 0 from rfl);clear h1 h2 h3 hs hL
 have a7:∀c:Int,c≠0→zf1 x l=c→zd2 x l=z2q 0∧zl1 x l=0:=fun c hc he=>by
  have h0:zf1 x l≠0:=by rw[he];exact hc
  exact⟨by rw[EY.o,Xc h0],by rw[EK.o,Xc h0]⟩
 have X:=hid a7;clear a7;by_cases ha:z02 5 x=0
 ·rw[ha] at RD;by_cases F:z4z l=0;have Q:=hid trivial
  all_goals
   first
   | (guard_hyp Q
      have NL:=hid (zcb F).2;have ad:=hid (z3t ha);have ap:=ad.o.2;have z:zpq x l=0:=by rw[EP.o,Xc (by simpa using ha)];exact F
      rw[F] at SM;have CL:=hid (fun W (hW:Fr [] w W)=>zbr x.scores.length (z06 x.scores) A3 c3 W B (by omega) (Xd hB hW.size) (H3.o.fr hW hB (by simp)) (z5u _));have E0:=hid (show zf1 x l=if 24 < (zf2 x l).length then 2 else 0 from by rw[EC.o,Xc (by simpa using z)]);clear ha F z EC EP)
   | (have E:=hid (show zf1 x l=z4z l from by
       have z:zpq x l=z4z l:=by rw[EP.o,Xc (by simpa using ha)]
       rw[EC.o,z,Xf F])
      obtain⟨t,R⟩:=X.o _ F E.o;rw[t,R,E.o];have q:(z4z l != 0)=true:=by simpa using F
      clear t R EC EP EY EK ha F X E;generalize z4z l=r at *)
   go_enter func225,ntmps225;go_wp2_with fail;refine(RD.o _ D0.o.f).mono ?_;rintro e w1 ⟨rfl,f1⟩;have D1:=hid (D0.o.go f1);clear Y d1 S Z d4;go_wp2_with fail;refine(SM.o _ D1.o.f).mono ?_;rintro e w2 ⟨rfl,f2⟩;have D2:=hid (D1.o.go f2)
   first
   | (guard_hyp Q
      have hz2:=D2.o.lt;obtain⟨Y,d1,S,Z,d4⟩:=five D2.o.b;go_wp2_with fail;refine(CL.o _ D2.o.f).mono ?_;rintro e w3 ⟨u,rfl,ho,f3⟩;have D3:=hid (D2.o.go f3);have an:=hid (z0i ho (show w.heap.size+2≤w2.heap.size by omega));clear Y d1 S Z d4 ho SM RD CL;go_wp2;go_loopg [8,29] l.length (fun g o i wr=>∃(k:Nat) (a:List (Int×YY)),g=l.length - k∧k≤l.length∧i=.int .i64 k∧Hid (a=(l.take k).foldl zl2 x.scores)∧wr.ownsRow (w.heap.size+2) 102 2 o a.length (z06 a)∧BO w 1 [.int .i64 x.kind,.string x.text,.slice A1 x.list.length c1,.slice A2 x.pairs.length c2,.slice A3 x.scores.length c3] wr)
      case atStart=>exact⟨0,x.scores,rfl,Xt _,rfl,hid rfl,an.o,D3.o⟩
      case round=>
       obtain⟨k,a,rfl,hk,rfl,j,hO,hD⟩:=hrel;have K:=hid hD;have L:=hid hO;have N:=hid (show z9s a from by rw[j.o];exact z9s.fold _ ad.o.1 (fun s hs=>NL.o s (Ud hs)))
       have ao:a.length≤24+k:=by
        have:=zk1 (l.take k) x.scores;rw[←j.o,Xp] at this;omega
       obtain⟨A,c,rfl,hA,b1,a9⟩:=z05 hO;have ay:=K.o.lt;clear hO hD hA;by_cases hlt:k < l.length
       ·obtain⟨b,off,rfl,F,aw,ai,n⟩:=HL.o.at_ (by omega);obtain⟨p,z⟩:∃p,l[k]? = some p:=⟨_,Xa hlt⟩;have x1:wr.cell? ⟨b,off+2 * k,none⟩=some (.int .i64 p.1):=K.o.f.cell (n _ _ (z0b l k p z).1) (by simp);have x2:wr.cell? ⟨b,off+2 * k+1,none⟩=some (.string p.2):=K.o.f.cell (n _ _ (z0b l k p z).2) (by simp);rw[Ya 2 k] at x1 x2;have F1:=hid ((Fr.refl [] wr).alloc (.cells #[.int .i64 p.1,.string p.2] 102));have V1:=hid (Whole.new wr 102 [.int .i64 p.1,.string p.2]);have PL:=hid (fun W (hW:Fr [] wr W)=>zl0 a p.2 A c wr.heap.size W (by omega) hW.size ((z0l L.o).fr hW (Xb _) (by simp)));have aa:=hid (NL.o p (Xj z));have ak:=hid (show zl2 a p=(l.take (k+1)).foldl zl2 x.scores from by rw[Xz,z,Uo,List.foldl_append,←j.o];rfl);unfold maxLen at a9 ai;clear n z j;rcases ze5 p.2 a with⟨t,hno⟩|⟨i0,s',t,hi,hm,-⟩;have d:=hid trivial
        all_goals
         rw[t] at PL
         first
         | (guard_hyp d
            have M:=hid (q04 hno);clear t hno)
         | (have az:=(Xe.1 hi).1
            have M:=hid (q05 N.o.dist hi hm);clear t hm hi)
         go_wp2_with fail;refine(PL.o _ F1.o).mono ?_;rintro e I ⟨rfl,f5⟩;have F5:=hid (F1.o.trans f5);have G:=hid (z08 L.o F5.o (by simp));have V5:=hid (V1.o.fr f5 (by simp));have T:=hid (K.o.go F5.o);have av:wr.heap.size < I.heap.size:=V5.o.lt
         first
         | (guard_hyp d
            clear f5;have D:=hid (show z9s (a) from by rw[←M.o];exact N.o.off p.2);have ah:=hid (show ∀q∈a,q.2≠p.2 from by rw[←M.o];exact zvt a p.2);have am:(a).length≤a.length:=by have:=zhy a p.2;rw[M.o] at this;exact this
            have HP:=hid (show zl2 a p=(a).take (z8k (a) p)++p :: (a).drop (z8k (a) p) from by unfold zl2 zxg;rw[M.o]);have C:=zhq (a) p;have v1:I.cell? ⟨wr.heap.size,0,none⟩=some (.int .i64 p.1):=V5.o.cell 0;have v2:I.cell? ⟨wr.heap.size,1,none⟩=some (.string p.2):=V5.o.cell 1;have BS:=hid (zoe (a) p.1 p.2 A c I.heap.size I D.o.rise (fun q hq=>(D.o.ok q hq).1) aa.o.1 (by omega) (Xb _) (z0l G.o)))
         | (have DE:=hid (show Calls prog 284 #[.slice A a.length c,.int .i64 (i0:Int),.int .i64 ((i0:Int)+1)] I (zo6 (a.take i0++a.drop (i0+1)).length (z06 (a.take i0++a.drop (i0+1))) (w.heap.size+2) (.slice A a.length c) I) from by
             have:=zym a.length i0 (i0+1) (z06 a) (w.heap.size+2) (.slice A a.length c) I (by omega) (by omega) (by omega) G.o (z5u _);rw[zdw,show(((i0+1:Nat)):Int)=(i0:Int)+1 from by omega] at this;rw[show(a.take i0++a.drop (i0+1)).length=i0+(a.length - (i0+1)) from by rw[Xk,Xp,Xr];omega];exact this)
            generalize a.take i0++a.drop (i0+1)=m at *;clear f5 PL;go_wp2_with fail;refine DE.o.mono ?_;rintro e w6 ⟨u6,rfl,a5,O,al⟩
            have V6:=hid (V5.o.grown O (by
             intro e;have:=L.o.lt wr.heap.size e.symm;omega))
            have D6:=hid (T.o.step (z1u O) (fun g hg=>by have:=z19 G.o hg;omega));have a8:=O.size;have a6:=hid a5;obtain⟨A6,c6,rfl,-,ax,aj⟩:=z05 a5;unfold maxLen at aj;have au:I.heap.size≤w6.heap.size:=a8;clear a5 O al DE a8;have D:=hid (show z9s (m) from by rw[←M.o];exact N.o.off p.2);have ah:=hid (show ∀q∈m,q.2≠p.2 from by rw[←M.o];exact zvt a p.2);have am:(m).length≤a.length:=by have:=zhy a p.2;rw[M.o] at this;exact this
            have HP:=hid (show zl2 a p=(m).take (z8k (m) p)++p :: (m).drop (z8k (m) p) from by unfold zl2 zxg;rw[M.o]);have C:=zhq (m) p;have v1:w6.cell? ⟨wr.heap.size,0,none⟩=some (.int .i64 p.1):=V6.o.cell 0;have v2:w6.cell? ⟨wr.heap.size,1,none⟩=some (.string p.2):=V6.o.cell 1;have BS:=hid (zoe (m) p.1 p.2 A6 c6 w6.heap.size w6 D.o.rise (fun q hq=>(D.o.ok q hq).1) aa.o.1 (by omega) (Xb _) (z0l a6.o)))
         rw[show((p.1,p.2):Int×YY)=p from rfl] at BS
         first
         | (guard_hyp d
            generalize q3b (a) p=F at *)
         | (generalize q3b (m) p=F at *)
         go_wp2_with fail;refine BS.o.mono ?_;rintro e U ⟨rfl,V⟩
         first
         | (guard_hyp d
            have V7:=hid (V5.o.fr V (by simp)))
         | (have V7:=hid (V6.o.fr V (by simp)))
         clear v1 v2;have v1:U.cell? ⟨wr.heap.size,0,none⟩=some (.int .i64 p.1):=V7.o.cell 0;have v2:U.cell? ⟨wr.heap.size,1,none⟩=some (.string p.2):=V7.o.cell 1
         first
         | (guard_hyp d
            have F8:=hid ((show Fr [] I U from V).alloc (.cells #[.int .i64 p.1,.string p.2] 102)))
         | (have F8:=hid ((show Fr [] w6 U from V).alloc (.cells #[.int .i64 p.1,.string p.2] 102)))
         have V8:=hid (Whole.new U 102 [.int .i64 p.1,.string p.2])
         first
         | (guard_hyp d
            have J:=hid (z08 G.o F8.o (by simp));have D8:=hid (T.o.go F8.o);have ag:=D8.o.lt
            have IN:=hid (zp7 (a).length (z8k (a) p) (z06 (a)) [.int .i64 p.1,.string p.2] (w.heap.size+2) U.heap.size (.slice A (a).length c) _ (by omega) C J.o (z5u _) (by intro u hu;simp at hu;rcases hu with rfl|rfl <;> rfl) rfl V8.o (by
             intro e;have h1:=(G.o.lt _ e).2;have h2:=V.size;omega) (by omega))
            generalize z8k (a) p=i at *)
         | (have J:=hid (z08 a6.o F8.o (by simp))
            have D8:=hid (D6.o.go F8.o);have ag:=D8.o.lt
            have IN:=hid (zp7 (m).length (z8k (m) p) (z06 (m)) [.int .i64 p.1,.string p.2] (w.heap.size+2) U.heap.size (.slice A6 (m).length c6) _ (by omega) C J.o (z5u _) (by intro u hu;simp at hu;rcases hu with rfl|rfl <;> rfl) rfl V8.o (by
             intro e;have h1:=(a6.o.lt _ e).2;have h2:=V.size;omega) (by omega))
            generalize z8k (m) p=i at *)
         clear V x1 x2;go_wp2_with fail;refine IN.o.mono ?_;rintro e w9 ⟨u9,rfl,P,ac,-⟩;have D9:=hid (D8.o.step (z1u ac) (fun g hg=>by have:=z19 J.o hg;omega));rw[ze6,←HP.o] at P
         first
         | (guard_hyp d
            have ab:(zl2 a p).length=(a).length+1:=by
             rw[HP.o,Xk,Xy,Xp,Xr];omega)
         | (have ab:(zl2 a p).length=(m).length+1:=by
             rw[HP.o,Xk,Xy,Xp,Xr];omega)
         rw[←ab] at P;have af:=hid P;clear P ac;go_wp2;go_roundg (l.length - (k+1))
         case measure=>omega
         case rel=>exact⟨k+1,zl2 a p,rfl,by omega,by go_num,ak,af.o,D9.o⟩
       ·obtain rfl:k=l.length:=by omega
        have H:zf2 x l=a:=by have:=j.o;rw[Ym] at this;exact this.symm
        rw[H] at E0 EY EK;clear j H;unfold maxLen at a9;by_cases h24:24 < a.length
        ·have E:=hid (show zf1 x l=2 from by rw[E0.o,Xf h24]);obtain⟨t,R⟩:=X.o 2 (by decide) E.o;have ae:(a.length:Int) > 24:=by omega
         have E1:=hid t;have E2:=hid R;clear t R E0 EY EK X h24 hlt;obtain⟨a0,a1,a2,a3,a4⟩:=five K.o.o;obtain⟨b0,b2,b3,b4,b5⟩:=z11 K.o.o;go_wp2;refine Xg (v:=.tuple #[.agg yIza,.int .i64 0,.int .i64 2]) (by simp[results,results225,go_sem,a0,a1,a2,a3,a4]) rfl ?_;rw[E1.o,E2.o,E.o];exact⟨_,rfl,z0k.nothing _ _,K.o.end5 _ _ _ _ _⟩
        ·have E:=hid (show zf1 x l=0 from by rw[E0.o,Xc h24]);have E1:=hid (EY.o.trans (Xf E.o));have E2:=hid (EK.o.trans (Xf E.o));have ae:¬(a.length:Int) > 24:=by omega
         have OF:=hid (fun W base u hu=>zfc a base u W (by omega) N.o.small hu);have HW:=hid (show IntKind.i64.wrap ((a.length:Int) - (x.scores.length:Int))=(a.length:Int) - x.scores.length from IntWalk.i64_in _ (by omega));clear E0 EY EK X hlt NL ao;obtain⟨Y,d1,S,Z,d4⟩:=five K.o.b;generalize ofC a=y at *;generalize zd2 x l=y0 at *;generalize zl1 x l=n0 at *;generalize zf1 x l=c0 at *;have ar:¬w.heap.size=w.heap.size+1:=by omega
         have aq:¬w.heap.size+1=w.heap.size:=by omega
         go_wp2;go_region_held3 (fun wx=>wx.cell? ⟨w.heap.size,4,none⟩=some (.slice A3 x.scores.length c3)) (go_keep) (first|(go_at_call 287;(refine(OF.o _ _ _ (show wr.drew.ownsRow _ _ _ _ _ _ from L.o)).mono ?_);rintro e I ⟨u5,rfl,hi,f5⟩;have T:=hid (K.o.go (z01 f5));clear Y d1 S Z d4 f5;obtain⟨Y,d1,S,Z,d4⟩:=five T.o.b;have HI:=hid hi;obtain⟨P1,p1,P2,p2,P3,p3,rfl⟩:=hi.form;clear hi;obtain⟨a0,a1,a2,a3,a4⟩:=five T.o.o;obtain⟨b0,b2,b3,b4,b5⟩:=z11 T.o.o))
         go_wp2;refine Xg (v:=.tuple #[.agg (yIa y P1 p1 P2 p2 P3 p3),.int .i64 (IntKind.i64.wrap ((a.length:Int) - (x.scores.length:Int))),.int .i64 0]) (by simp[results,results225,go_sem,a0,a1,a2,a3,a4]) rfl ?_;rw[E1.o,E2.o,E.o];exact⟨_,by rw[HW.o],(z1v HI.o (by omega) _ _ _ _ _).less (by omega),T.o.end5 _ _ _ _ _⟩)
   | (obtain⟨a0,a1,a2,a3,a4⟩:=five D2.o.o
      obtain⟨b0,b2,b3,b4,b5⟩:=z11 D2.o.o;go_wp2;refine Xg (v:=.tuple #[.agg yIza,.int .i64 0,.int .i64 r]) (by simp[results,results225,go_sem,a0,a1,a2,a3,a4]) rfl ?_;exact⟨_,rfl,z0k.nothing _ _,D2.o.end5 _ _ _ _ _⟩)
 ·have z:zpq x l=z02 5 x:=by rw[EP.o,Xf ha]
  have E:=hid (show zf1 x l=z02 5 x from by rw[EC.o,z,Xf ha]);obtain⟨t,R⟩:=X.o _ ha E.o;rw[t,R,E.o];have q:(z02 5 x != 0)=true:=by simpa using ha
  have q2:(z02 5 x==0)=false:=by simpa using ha
  clear t R EC EP EY EK z E ha X SM;generalize z02 5 x=r at *;go_enter func225,ntmps225;go_wp2_with fail;refine(RD.o _ D0.o.f).mono ?_;rintro e w1 ⟨rfl,f1⟩;have D1:=hid (D0.o.go f1);clear Y d1 S Z d4;obtain⟨a0,a1,a2,a3,a4⟩:=five D1.o.o;obtain⟨b0,b2,b3,b4,b5⟩:=z11 D1.o.o;go_wp2;refine Xg (v:=.tuple #[.agg yIza,.int .i64 0,.int .i64 r]) (by simp[results,results225,go_sem,a0,a1,a2,a3,a4]) rfl ?_;exact⟨_,rfl,z0k.nothing _ _,D1.o.end5 _ _ _ _ _⟩
def zly(n code:Int)(w:World)(e:Ending)(w':World):Prop:=e=.returned (.tuple #[.int .i64 n,.int .i64 code])∧Fr [] w w'
def zsq(l:YX)(code:Int)(w:World)(e:Ending)(w':World):Prop:=∃u,e=.returned (.tuple #[u,.int .i64 code])∧w'.ownsRow w.heap.size 9 1 u l.length (z03 l)∧Fr [] w w'
def q22(g:Nat)(lb:Array Value)(p:Nat→Int×YY→Bool)(B:Nat)(w:World):Prop:=
 ∀W (i:Nat) (x:Int×YY),i≤281474976710656→FrB [] B w W→Calls prog g (#[.int .i64 i,.agg #[.int .i64 x.1,.string x.2]]++lb) W fun e w'=>e=.returned (.bool (p i x))∧Fr [] W w'
theorem zeo(g:Nat)(lb:Array Value)(eg:∀args w,(callFunc g args).run prog w=.ok (.enter g args) w)(p:Nat→Int×YY→Bool)(D:Nat)(l:List (Int×YY))(A:YV)(c B:Nat)(w)(hp:q22 g lb p D w)(hl:l.length≤1000000)(hB:B≤w.heap.size)
  (hsl:Sl w B 2 (.slice A l.length c) l.length (z06 l)):
  Calls prog 290 #[.slice A l.length c,.func (Fn.func g) #[] lb] w (z8p 9 1 (z74 p l l.length).length (z03 (z74 p l l.length)) w):=by
 obtain⟨i0,hi,hz0,hz1,hz2⟩:=info_parts z2y;have T:=hid hsl;have U:=hid hp;clear hsl hp;go_enter func290,ntmps290;go_wp2;go_loopg [5,10] l.length (fun g o i wr=>∃(k:Nat),g=l.length - k∧k≤l.length∧i=.int .i64 k∧wr.ownsRow w.heap.size 9 1 o (z74 p l k).length (z03 (z74 p l k))∧Fr [] w wr)
 case atStart=>exact⟨0,rfl,Xt _,rfl,World.ownsRow_nil _ _ _ _,Fr.refl _ _⟩
 case round=>
  obtain⟨k,rfl,M,rfl,I,H⟩:=hrel;have J:=hid I;have m:=hid H;have G:=H.size;obtain⟨X,Z,rfl,-⟩:=z05 I;have S:=zkl p l k;clear I H;by_cases hlt:k < l.length
  ·obtain⟨b,off,rfl,Y,hc,hm,a⟩:=T.o.at_ (by omega);obtain⟨s,hs⟩:∃s,l[k]? = some s:=⟨_,Xa hlt⟩;have t:wr.cell? ⟨b,off+2 * k,none⟩=some (.int .i64 s.1):=m.o.cell (a _ _ (z0b l k s hs).1) (by simp);have x:wr.cell? ⟨b,off+2 * k+1,none⟩=some (.string s.2):=m.o.cell (a _ _ (z0b l k s hs).2) (by simp);rw[Ya 2 k] at t x;have L:=hid (fun W (hW:Fr [] wr W)=>U.o W k s (by omega) ((m.o.toB D).trans (hW.toB D)));have y:=hid (zc1 (p:=p) hs);have O:=hid ((Fr.refl [] wr).alloc (.cells #[.int .i64 s.1,.string s.2] 102));have Q:=hid (Whole.new wr 102 [.int .i64 s.1,.string s.2]);clear a hs;by_cases hq:p k s=true;have f:=hid trivial
   all_goals
    first
    | (guard_hyp f
       rw[Xf hq] at y;rw[hq] at L)
    | (rw[Xc hq] at y
       rw[show p k s=false by simpa using hq] at L)
    clear hq;go_wp2_with fail;refine(L.o _ O.o).mono ?_;rintro e C ⟨rfl,z⟩;have n:=hid (O.o.trans z)
    first
    | (guard_hyp f
       have R:C.cell? ⟨wr.heap.size,1,none⟩=some (.string s.2):=(Q.o.fr z (by simp)).cell 1;have r:=hid (z08 J.o n.o (by simp));have N:w.heap.size≤C.heap.size:=Xd G n.o.size;generalize z74 p l k=d at *;clear z;go_wp2_with (at_builtin;refine wpList_append_own_at _ rfl _ _ 24 rfl w.heap.size 9 i0 _ 1 16 underlying24 hi hz0 hz1 hz2 rfl (by decide) _ _ _ rfl (r.o.alloc _) ⟨C.heap.size,0,none⟩ 1 1 [.string s.2] rfl rfl ?c1 ?c2 ?c3 ?c4 ?c5 ?_)
       case c1=>exact cell_one_new _ _ _
       case c2=>intro u P;simp at P;subst P;rfl
       case c3=>unfold maxLen;omega
       case c4=>omega
       case c5=>simp;omega
       intro V w2 h j _ E;have F:=hid h;have K:=hid (((m.o.trans n.o).alloc (.cells #[.string s.2] 9)).grown j (fun k M=>.inr (r.o.lt k M).1));clear h j E t x R)
    | (clear z)
    go_wp2;go_roundg (l.length - (k+1))
    case measure=>omega
    first
    | (guard_hyp f
       case rel=>exact⟨k+1,rfl,by omega,by go_num,by rw[y.o,z36];simpa[z03] using F.o,K.o⟩)
    | (case rel=>exact⟨k+1,rfl,by omega,by go_num,by rw[y.o];exact z08 J.o n.o (by simp),m.o.trans n.o⟩)
  ·obtain rfl:k=l.length:=by omega
   go_wp2;go_ret;exact⟨_,rfl,J.o,m.o⟩
theorem zrx(i a b:Nat)(s:Int×YY)(g h:Nat)(w:World)(ha:w.cell? ⟨g,0,none⟩=some (.int .i64 a))(hb:w.cell? ⟨h,0,none⟩=some (.int .i64 b)):
  Calls prog 291 (#[.int .i64 i,.agg #[.int .i64 s.1,.string s.2]]++#[.pointer (some ⟨g,0,none⟩),.pointer (some ⟨h,0,none⟩)]) w fun e w'=>e=.returned (.bool (decide (a≤i)&&decide (i < b)))∧Fr [] w w':=by
 have d:Fr [] w (w.alloc (.cells #[.int .i64 s.1,.string s.2] 102)):=(Fr.refl [] w).alloc _;have f:(w.alloc (.cells #[.int .i64 s.1,.string s.2] 102)).cell? ⟨g,0,none⟩=some (.int .i64 a):=d.cell ha (by simp);have j:(w.alloc (.cells #[.int .i64 s.1,.string s.2] 102)).cell? ⟨h,0,none⟩=some (.int .i64 b):=d.cell hb (by simp);clear ha hb;by_cases h1:a≤i
 ·go_enter func291,ntmps291;go_wp2;go_ret;exact⟨by rw[Xi h1];simp,d⟩
 ·have k:decide (a≤i)=false:=Xl h1;go_enter func291,ntmps291;go_wp2;go_ret;exact⟨by rw[Xl h1];simp,d⟩
theorem znh(a b g h D:Nat)(w:World)(ha:w.cell? ⟨g,0,none⟩=some (.int .i64 a))(hb:w.cell? ⟨h,0,none⟩=some (.int .i64 b))(hg:g < D)(hh:h < D):q22 291 #[.pointer (some ⟨g,0,none⟩),.pointer (some ⟨h,0,none⟩)] (fun i _=>decide (a≤i)&&decide (i < b)) D w:=
 fun W i x _ hW=>zrx i a b x g h W (z5j hW ha hg (by simp)) (z5j hW hb hh (by simp))
theorem zo4(i:Nat)(a b:Int)(s:Int×YY)(g h:Nat)(w:World)(ha:w.cell? ⟨g,0,none⟩=some (.int .i64 a))(hb:w.cell? ⟨h,0,none⟩=some (.int .i64 b)):
  Calls prog 292 (#[.int .i64 i,.agg #[.int .i64 s.1,.string s.2]]++#[.pointer (some ⟨g,0,none⟩),.pointer (some ⟨h,0,none⟩)]) w fun e w'=>e=.returned (.bool (decide (a≤s.1)&&decide (s.1≤b)))∧Fr [] w w':=by
 have d:Fr [] w (w.alloc (.cells #[.int .i64 s.1,.string s.2] 102)):=(Fr.refl [] w).alloc _;have f:(w.alloc (.cells #[.int .i64 s.1,.string s.2] 102)).cell? ⟨g,0,none⟩=some (.int .i64 a):=d.cell ha (by simp);have j:(w.alloc (.cells #[.int .i64 s.1,.string s.2] 102)).cell? ⟨h,0,none⟩=some (.int .i64 b):=d.cell hb (by simp);clear ha hb;by_cases h1:a≤s.1
 ·go_enter func292,ntmps292;go_wp2;go_ret;exact⟨by rw[Xi h1];simp,d⟩
 ·have k:decide (a≤s.1)=false:=Xl h1;go_enter func292,ntmps292;go_wp2;go_ret;exact⟨rfl,d⟩
theorem zlt(a b:Int)(g h D:Nat)(w:World)(ha:w.cell? ⟨g,0,none⟩=some (.int .i64 a))(hb:w.cell? ⟨h,0,none⟩=some (.int .i64 b))(hg:g < D)(hh:h < D):q22 292 #[.pointer (some ⟨g,0,none⟩),.pointer (some ⟨h,0,none⟩)] (fun _ s=>decide (a≤s.1)&&decide (s.1≤b)) D w:=
 fun W i x _ hW=>zo4 i a b x g h W (z5j hW ha hg (by simp)) (z5j hW hb hh (by simp))
theorem zbg(x:Itm)(v)(m:YY)(w:World)(B:Nat)(hs:x.Small)(hB:B≤w.heap.size)(h:z0p w B v x):
  Calls prog 228 #[v,.string m] w (zly (zba x m) (z16 x m) w):=by
 have s:=hid (fun W (hf:Fr [] w W)=>z9g x v W B hs (Xd hB hf.size) (h.fr hf hB (by simp)));obtain⟨I,c1,L,c2,E,C,rfl,J,H,h3⟩:=h;have F:=hid (fun W (hf:Fr [] w W)=>zl0 x.scores m E C B W hs.scores (Xd hB hf.size) (h3.fr hf hB (by simp)));have l:=hid (BX.new w (.int .i64 x.kind) (.string x.text) (.slice I x.list.length c1) (.slice L x.pairs.length c2) (.slice E x.scores.length C));obtain⟨A,z,u,y,D⟩:=five l.o.b;have g:=hid (show z16 x m=if z02 5 x≠0 then z02 5 x else if z82 x m < 0 then 5 else 0 from rfl);have j:=hid (show zba x m=if z16 x m=0 then z82 x m else 0 from rfl);have t:=hid (show z82 x m=z3c (fun q:Int×YY=>decide (q.2=m)) x.scores from rfl);clear J H h3 hs;by_cases ha:z02 5 x=0
 ·rw[ha] at s;by_cases hr:z82 x m < 0;have k:=hid trivial
  all_goals
   first
   | (guard_hyp k
      have a:=hid (show z16 x m=5 from by rw[g.o,Xc (by simpa using ha),Xf hr]);have d:=hid (show zba x m=0 from by rw[j.o,a.o,Xc (by decide)]))
   | (have a:=hid (show z16 x m=0 from by rw[g.o,Xc (by simpa using ha),Xc hr])
      have d:=hid (show zba x m=z82 x m from by rw[j.o,a.o,Xf rfl]))
   rw[a.o,d.o];rw[←t.o] at F;clear g j t a d ha;generalize z82 x m=r at *;go_enter func228,ntmps228;go_wp2_with fail;refine(s.o _ l.o.f).mono ?_;rintro e G ⟨rfl,p⟩;have n:=hid (l.o.go p);clear A z u y D;obtain⟨A,z,u,y,D⟩:=five n.o.b;go_wp2_with fail;refine(F.o _ n.o.f).mono ?_;rintro e M ⟨rfl,K⟩;go_wp2;go_ret2;exact⟨rfl,n.o.f.trans K⟩
 ·have a:=hid (show z16 x m=z02 5 x from by rw[g.o,Xf ha]);have d:=hid (show zba x m=0 from by rw[j.o,a.o,Xc ha]);rw[a.o,d.o];have q:(z02 5 x != 0)=true:=by simpa using ha
  clear ha g j t a d;generalize z02 5 x=r at *;go_enter func228,ntmps228;go_wp2_with fail;refine(s.o _ l.o.f).mono ?_;rintro e G ⟨rfl,p⟩;go_wp2;go_ret2;exact⟨rfl,l.o.f.trans p⟩
theorem q4d{x:Itm}{m:YY}(h:z16 x m=0):∃(k:Nat) (s:Int×YY),zba x m=k∧x.scores[k]? = some s∧zvo x m=s.1∧s.2=m:=by
 have b:zba x m=z82 x m:=by unfold zba;rw[Xf h]
 have d:zvo x m=(x.scores.getD (z82 x m).toNat (0,⟨#[]⟩)).1:=by unfold zvo;rw[Xf h]
 unfold z16 at h;by_cases ha:z02 5 x=0
 ·rw[Xc (by simpa using ha)] at h;by_cases hr:z82 x m < 0
  ·rw[Xf hr] at h;cases h
  ·rcases ze5 m x.scores with⟨e1,_⟩|⟨k,s,e1,hk,hm,_⟩
   ·unfold z82 at hr;rw[e1] at hr;exact absurd (by decide) hr
   ·have a:z82 x m=k:=e1;refine⟨k,s,b.trans a,hk,?_,hm⟩;rw[d,a,Ur,Xs,hk];rfl
 ·rw[Xf ha] at h;exact absurd h ha
theorem zfb(x:Itm)(v)(m:YY)(w:World)(B:Nat)(hs:x.Small)(hB:B≤w.heap.size)(h:z0p w B v x):
  Calls prog 227 #[v,.string m] w (zly (zvo x m) (z16 x m) w):=by
 have g:=hid (fun W (hf:Fr [] w W)=>zbg x v m W B hs (Xd hB hf.size) (h.fr hf hB (by simp)));obtain⟨L,c1,R,c2,Q,O,rfl,N,J,h3⟩:=h;have K:=hid h3;have d:=hid (BX.new w (.int .i64 x.kind) (.string x.text) (.slice L x.list.length c1) (.slice R x.pairs.length c2) (.slice Q x.scores.length O));obtain⟨F,A,u,z,G⟩:=five d.o.b;have n:=hid (show zvo x m=if z16 x m=0 then (x.scores.getD (z82 x m).toNat (0,⟨#[]⟩)).1 else 0 from rfl);have M:=hs.scores;clear N J h3 hs;unfold zly at g;by_cases hr:z16 x m=0
 ·obtain⟨k,s,H,p,D,-⟩:=q4d hr;have I:=(Xe.1 p).1;obtain⟨b,off,rfl,T,P,j,a⟩:=K.o.at_ (by omega);have E:=hid (a _ _ (z0b _ _ s p).1);unfold maxLen at j;rw[Ya 2 k] at E;rw[hr,H] at g;rw[hr,D];clear hr H D p a n;go_enter func227,ntmps227;go_wp2_with fail;refine(g.o _ d.o.f).mono ?_;rintro e y ⟨rfl,t⟩;have l:=hid (d.o.go t);clear F A u z G;obtain⟨F,A,u,z,G⟩:=five l.o.b;have S:y.cell? ⟨b,off+k * 2,none⟩=some (.int .i64 s.1):=l.o.f.cell E.o (by simp);go_wp2;go_ret2;exact⟨rfl,l.o.f⟩
 ·have C:=hid (show zvo x m=0 from by rw[n.o,Xc hr]);rw[C.o];have q:(z16 x m != 0)=true:=by simpa using hr
  clear hr n C;generalize z16 x m=r at *;generalize zba x m=U at *;go_enter func227,ntmps227;go_wp2_with fail;refine(g.o _ d.o.f).mono ?_;rintro e y ⟨rfl,t⟩;go_wp2;go_ret2;exact⟨rfl,d.o.f.trans t⟩
theorem zem(x:Itm)(f t:Int):z74 (fun i _=>decide (z6x x.scores.length f t≤i)&&decide (i < z6y x.scores.length f t)) x.scores x.scores.length=z28 (x.scores.map (·.2)) f t:=by
 rw[zen _ _ _ _ (Xb _)];unfold z28;rw[Xw (l:=x.scores.map (·.2)) (i:=x.scores.length) (by rw[Xx];omega),Xx]
theorem boxNN(w)(a b c d e)(f t:Int):BX w [a,b,c,d,e] (((w.alloc (.cells #[a,b,c,d,e] 68)).alloc (.cells #[.int .i64 f] 3)).alloc (.cells #[.int .i64 t] 3))∧Whole (((w.alloc (.cells #[a,b,c,d,e] 68)).alloc (.cells #[.int .i64 f] 3)).alloc (.cells #[.int .i64 t] 3)) (w.heap.size+1) 3 [.int .i64 f]∧Whole (((w.alloc (.cells #[a,b,c,d,e] 68)).alloc (.cells #[.int .i64 f] 3)).alloc (.cells #[.int .i64 t] 3)) (w.heap.size+1+1) 3 [.int .i64 t]:=by
 refine⟨⟨((Whole.new w _ _).alloc _).alloc _,(((Fr.refl [] w).alloc _).alloc _).alloc _⟩,?_,?_⟩
 ·have:=(Whole.new (w.alloc (.cells #[a,b,c,d,e] 68)) 3 [.int .i64 f]).alloc (.cells #[.int .i64 t] 3);simpa using this
 ·have:=Whole.new ((w.alloc (.cells #[a,b,c,d,e] 68)).alloc (.cells #[.int .i64 f] 3)) 3 [.int .i64 t];simpa using this
theorem q76:(∀(x:Itm) (v) (f t:Int) (w:World) (B:Nat) (hs:x.Small) (hB:B≤w.heap.size) (h:z0p w B v x) (hf:-9223372036854775808≤f∧f≤9223372036854775807) (ht:-9223372036854775808≤t∧t≤9223372036854775807),Calls prog 229 #[v,.int .i64 f,.int .i64 t] w (zsq (z79 x f t) (z02 5 x) w))∧(∀(x:Itm) (v) (f t:Int) (w:World) (B:Nat) (hs:x.Small) (hB:B≤w.heap.size) (h:z0p w B v x),Calls prog 230 #[v,.int .i64 f,.int .i64 t] w (zsq (z52 x f t) (z02 5 x) w)):=by
 refine⟨?_,?_⟩;have d:=hid trivial
 rotate_left
 have a1:=hid trivial
 all_goals
  first
  | (guard_hyp d
     intro x v f t w B hs hB h hf ht)
  | (intro x v f t w B hs hB h)
  have J:=hid (fun W (hf:Fr [] w W)=>z9g x v W B hs (Xd hB hf.size) (h.fr hf hB (by simp)));obtain⟨R,c1,Z,c2,I,G,rfl,T,O,h3⟩:=h;have Q:=hid h3
  first
  | (guard_hyp d
     have l:=hid (BX.new w (.int .i64 x.kind) (.string x.text) (.slice R x.list.length c1) (.slice Z x.pairs.length c2) (.slice I x.scores.length G)))
  | (obtain⟨S,N,X⟩:=boxNN w (.int .i64 x.kind) (.string x.text) (.slice R x.list.length c1) (.slice Z x.pairs.length c2) (.slice I x.scores.length G) f t
     have l:=hid S;have W0:=hid N;have X0:=hid X)
  obtain⟨F,D,A,C,H⟩:=five l.o.b
  first
  | (guard_hyp d
     have p:=hid (show z79 x f t=if z02 5 x=0 then z28 (x.scores.map (·.2)) f t else [] from rfl);clear T O h3 hs)
  | (have p:=hid (show z52 x f t=if z02 5 x=0 then z8c x.scores f t else [] from rfl)
     clear T O h3 hs S N X)
  by_cases ha:z02 5 x=0
  ·
   have a0:=(z3t ha).2
   first
   | (guard_hyp d
      have L:=hid (zem x f t);have SP:=hid (fun W=>zim x.scores.length f t W (by omega) hf ht))
   | (have L:=hid (show z74 (fun _ s=>decide (f≤s.1)&&decide (s.1≤t)) x.scores x.scores.length=z8c x.scores f t from by
       rw[zcn f t x.scores _ (Xb _),Ym]))
   have z:=hid (p.o.trans (Xf ha));rw[z.o,ha];rw[ha] at J
   first
   | (guard_hyp d
      have y:=hid (fun W (g h:Nat) (hF:Fr [] w W) (ca:W.cell? ⟨g,0,none⟩=some (.int .i64 (z6x x.scores.length f t:Nat))) (cb:W.cell? ⟨h,0,none⟩=some (.int .i64 (z6y x.scores.length f t:Nat))) (hg:g < W.heap.size) (hh:h < W.heap.size)=>
       zeo 291 #[.pointer (some ⟨g,0,none⟩),.pointer (some ⟨h,0,none⟩)] (z1b func291 (by kernel_rfl) rfl) _ W.heap.size x.scores I G B W (znh _ _ g h _ W ca cb hg hh) (by omega) (Xd hB hF.size) (Q.o.fr hF hB (by simp))))
   | (have y:=hid (fun W (g h:Nat) (hF:Fr [] w W) (ca:W.cell? ⟨g,0,none⟩=some (.int .i64 f)) (cb:W.cell? ⟨h,0,none⟩=some (.int .i64 t)) (hg:g < W.heap.size) (hh:h < W.heap.size)=>
       zeo 292 #[.pointer (some ⟨g,0,none⟩),.pointer (some ⟨h,0,none⟩)] (z1b func292 (by kernel_rfl) rfl) _ W.heap.size x.scores I G B W (zlt _ _ g h _ W ca cb hg hh) (by omega) (Xd hB hF.size) (Q.o.fr hF hB (by simp))))
   rw[L.o] at y;unfold z8p at y;clear ha p z L
   first
   | (guard_hyp d
      generalize z28 (x.scores.map (·.2)) f t=r at *;generalize z6x x.scores.length f t=a at *;generalize z6y x.scores.length f t=b at *;go_enter func229,ntmps229)
   | (generalize z8c x.scores f t=r at *
      go_enter func230,ntmps230)
   go_wp2_with fail;refine(J.o _ l.o.f).mono ?_;rintro e j ⟨rfl,m⟩;have k:=hid (l.o.go m)
   first
   | (guard_hyp d
      skip)
   | (have U:=hid (W0.o.fr m (by simp))
      have X1:=hid (X0.o.fr m (by simp));have M:=hid (y.o _ (w.heap.size+1) (w.heap.size+1+1) k.o.f (U.o.cell 0) (X1.o.cell 0) U.o.lt X1.o.lt))
   clear F D A C H;obtain⟨F,D,A,C,H⟩:=five k.o.b;go_wp2_with fail
   first
   | (guard_hyp d
      refine(SP.o _).mono ?_;rintro e w2 ⟨rfl,rfl⟩;have E:=hid (k.o.go (((Fr.refl [] j).alloc (.cells #[.int .i64 a] 3)).alloc (.cells #[.int .i64 b] 3)));have Y:=hid ((Whole.new j 3 [.int .i64 a]).alloc (.cells #[.int .i64 b] 3));have K:=hid (Whole.new (j.alloc (.cells #[.int .i64 a] 3)) 3 [.int .i64 b]);have n:(j.alloc (.cells #[.int .i64 a] 3)).heap.size=j.heap.size+1:=by simp
      rw[n] at K;have M:=hid (y.o _ j.heap.size (j.heap.size+1) E.o.f (Y.o.cell 0) (K.o.cell 0) Y.o.lt K.o.lt);clear F D A C H n;obtain⟨F,D,A,C,H⟩:=five E.o.b;go_wp2_with fail)
   | (skip)
   refine M.o.mono ?_;rintro e w3 ⟨u,rfl,ho,f3⟩
   first
   | (guard_hyp d
      have V:=E.o.f.size;have P:=hid (E.o.go f3))
   | (have V:=k.o.f.size
      have P:=hid (k.o.go f3))
   go_wp2;go_ret2;exact⟨u,rfl,z0i ho V,P.o.f⟩
  ·
   have z:=hid (p.o.trans (Xc ha));rw[z.o];have q:(z02 5 x != 0)=true:=by simpa using ha
   clear ha p z;generalize z02 5 x=r at *
   first
   | (guard_hyp d
      go_enter func229,ntmps229)
   | (go_enter func230,ntmps230)
   go_wp2_with fail;refine(J.o _ l.o.f).mono ?_;rintro e j ⟨rfl,m⟩;have k:=hid (l.o.go m);go_wp2;go_ret2;exact⟨_,rfl,World.ownsRow_nil _ _ _ _,k.o.f⟩
abbrev zg2:=@And.left _ _ q76
abbrev zfd:=@And.right _ _ q76
end
end Go.Proofs.YtnmoajaelmimnaaGreatDoor
