/- Contracts; no condition but each theorem's own. -/
import Derived.Test.YtnmoajaelmimnaaGreatDoorSlY16
import Derived.Test.YtnmoajaelmimnaaGreatDoorSlY20
set_option linter.unusedVariables false
set_option linter.unusedSimpArgs false
set_option maxHeartbeats 8000000
set_option maxRecDepth 100000
namespace Go.Proofs.YtnmoajaelmimnaaGreatDoor
open Go.Proofs.Tryz
section
open Go.RowKit
def z6p(x:Itm)(l:YX):YX:=z9u (x.list++l)
def zpp(x:Itm)(l:YX):Int:=if z02 3 x≠0 then z02 3 x else z1a l
def zgb(x:Itm)(l:YX):Int:=if zpp x l≠0 then zpp x l else if 24 < (z6p x l).length then 2 else 0
def zcx(x:Itm)(l:YX):Itm:=if zgb x l=0 then ofK 3 (z6p x l) else z2q 0
def ziy(x:Itm)(l:YX):Int:=if zgb x l=0 then ((z6p x l).length:Int) - x.list.length else 0
theorem q4b{x:Itm}{l:YX}(h:zpp x l=0):z02 3 x=0∧z1a l=0:=by
 unfold zpp at h;by_cases ha:z02 3 x=0
 ·rw[Xc (by simpa using ha)] at h;exact⟨ha,h⟩
 ·rw[Xf ha] at h;exact absurd h ha
theorem zm2{x:Itm}{l:YX}(h:zgb x l=0):zpp x l=0∧(z6p x l).length≤24:=by
 unfold zgb at h;by_cases hp:zpp x l=0
 ·rw[Xc (by simpa using hp)] at h;refine⟨hp,?_⟩;by_cases hc:24 < (z6p x l).length
  ·rw[Xf hc] at h;cases h
  ·omega
 ·rw[Xf hp] at h;exact absurd h hp
theorem zdq{x:Itm}{l:YX}(h:zpp x l=0):∀s∈z6p x l,s.size≤60:=fun s hs=>by
 obtain⟨ha,hb⟩:=q4b h;rcases Ys.1 (z9h.1 hs) with h1|h1
 ·exact(z1m ha).texts s h1
 ·exact z7d hb s h1
theorem tw8x:(∀(x:Itm) (v) (left:Bool) (l:YX) (Al) (cl:Nat) (w:World) (B:Nat) (hs:x.Small) (hB:B≤w.heap.size) (h:z0p w B v x) (hl:l.length≤281474976710656) (hL:Sl w B 1 (.slice Al l.length cl) l.length (z03 l)),Calls prog 209 #[v,.bool left,.slice Al l.length cl] w (z57 (zg1 x left l) (z18 x l) (zc5 x left l) w))∧(∀(x:Itm) (v) (l:YX) (Al) (cl:Nat) (w:World) (B:Nat) (hs:x.Small) (hB:B≤w.heap.size) (h:z0p w B v x) (hl:l.length≤8796093021952) (hL:Sl w B 1 (.slice Al l.length cl) l.length (z03 l)),Calls prog 215 #[v,.slice Al l.length cl] w (z57 (ziy x l) (zgb x l) (zcx x l) w)):=by
 refine⟨?_,?_⟩;have a:=hid trivial
 rotate_left
 have aw:=hid trivial
 all_goals
  first
  | (guard_hyp a
     intro x v left l Al cl w B hs hB h hl hL)
  | (intro x v l Al cl w B hs hB h hl hL)
  first
  | (guard_hyp a
     have RD:=hid (fun W (hf:Fr [] w W)=>zbc x v W B hs (Xd hB hf.size) (h.fr hf hB (by simp)));have SM:=hid (fun W (hf:Fr [] w W)=>zpv l Al cl W B hl (Xd hB hf.size) (hL.fr hf hB (by simp))))
  | (have RD:=hid (fun W (hf:Fr [] w W)=>z9f x v W B hs (Xd hB hf.size) (h.fr hf hB (by simp)))
     have SM:=hid (fun W (hf:Fr [] w W)=>zpv l Al cl W B (by omega) (Xd hB hf.size) (hL.fr hf hB (by simp))))
  have HL:=hid hL;obtain⟨P,c1,A2,c2,A3,c3,rfl,h1,h2,h3⟩:=h;have H1:=hid h1;have D0:=hid (BO.new w (.int .i64 x.kind) (.string x.text) (.slice P x.list.length c1) (.slice A2 x.pairs.length c2) (.slice A3 x.scores.length c3));obtain⟨j,p,d,m,t⟩:=five D0.o.b
  first
  | (guard_hyp a
     have D:=hid (show z18 x l=if z02 2 x≠0 then z02 2 x else if z1a l≠0 then z1a l else if 24 < x.list.length+l.length then 2 else 0 from rfl);have Z:=hid (show zc5 x left l=if z18 x l=0 then ofL (z8m x left l) else z2q 0 from rfl);have EK:=hid (show zg1 x left l=if z18 x l=0 then ((z8m x left l).length:Int) else 0 from rfl);have OK:=hid (fun(h:z02 2 x=0)=>z1m h);have OS:=hid (fun(h:z1a l=0)=>z7d h);have ay:=hs.list;clear h1 h2 h3 hs hL
     have a9:∀c:Int,c≠0→z18 x l=c→zc5 x left l=z2q 0∧zg1 x left l=0:=fun c T he=>by
      have h0:z18 x l≠0:=by rw[he];exact T
      exact⟨by rw[Z.o,Xc h0],by rw[EK.o,Xc h0]⟩)
  | (have EP:=hid (show zpp x l=if z02 3 x≠0 then z02 3 x else z1a l from rfl)
     have D:=hid (show zgb x l=if zpp x l≠0 then zpp x l else if 24 < (z6p x l).length then 2 else 0 from rfl);have Z:=hid (show zcx x l=if zgb x l=0 then ofK 3 (z6p x l) else z2q 0 from rfl);have EK:=hid (show ziy x l=if zgb x l=0 then ((z6p x l).length:Int) - x.list.length else 0 from rfl);have OA:=hid (fun(h:z02 3 x=0)=>(zih h).2);have ON:=hid (fun(h:z1a l=0)=>z7d h);have OX:=hid (fun(h:z02 3 x=0)=>(z1m h).texts);have EL:=hid (q03 3 (z6p x l));have LL:=hid (show(z6p x l).length≤x.list.length+l.length from by have:=zbh (x.list++l);rw[Xk] at this;exact this);clear h1 h2 h3 hs hL
     have a9:∀c:Int,c≠0→zgb x l=c→zcx x l=z2q 0∧ziy x l=0:=fun c T he=>by
      have h0:zgb x l≠0:=by rw[he];exact T
      exact⟨by rw[Z.o,Xc h0],by rw[EK.o,Xc h0]⟩)
  have NO:=hid a9;clear a9
  first
  | (guard_hyp a
     by_cases ha:z02 2 x=0)
  | (by_cases ha:z02 3 x=0)
  ·
   rw[ha] at RD;by_cases hb:z1a l=0
   ·
    rw[hb] at SM
    first
    | (guard_hyp a
       by_cases T:24 < x.list.length+l.length)
    | (have hp:zpp x l=0:=by rw[EP.o,Xc (by simpa using ha)];exact hb
       have ak:=OA.o ha;have b1:=LL.o
       have OF:=hid (fun W base u aj hu=>(show Calls prog 266 #[u] W (zsl (ofK 3 (z6p x l)) base u W) from zle (x.list++l) base u W (by rw[Xk];omega) (fun s hs=>by
        rcases Ys.1 hs with h|h
        ·
         have:=OX.o ha s h;omega
        ·
         have:=ON.o hb s h;omega) aj hu))
       have HW:=hid (show IntKind.i64.wrap (((z6p x l).length:Int) - (x.list.length:Int))=((z6p x l).length:Int) - x.list.length from IntWalk.i64_in _ (by omega));by_cases T:24 < (z6p x l).length)
    ·
     first
     | (guard_hyp a
        have E:=hid (show z18 x l=2 from by rw[D.o,Xc (by simpa using ha),Xc (by simpa using hb),Xf T]))
     | (have E:=hid (show zgb x l=2 from by rw[D.o,Xc (by simpa using hp),Xf T]))
     obtain⟨e1,e2⟩:=NO.o 2 (by decide) E.o;rw[e1,e2,E.o]
     first
     | (guard_hyp a
        have q:(x.list.length:Int)+(l.length:Int) > 24:=by omega
        clear e1 e2 D Z EK OK OS ha hb T NO;generalize x.list.length=n at *;go_enter func209,ntmps209)
     | (have q:((z6p x l).length:Int) > 24:=by omega
        have a6:=hid (congrArg List.length EL.o);clear e1 e2 EP D Z EK OA ON OX ha hb T NO hp EL LL HW;generalize ofK 3 (z6p x l)=y at *;generalize (z6p x l).length=N at *;go_enter func215,ntmps215)
     go_wp2_with fail;refine(RD.o _ D0.o.f).mono ?_;rintro e w1 ⟨rfl,f1⟩;have z:=hid (D0.o.go f1);clear j p d m t;obtain⟨j,p,d,m,t⟩:=five z.o.b;go_wp2_with fail;refine(SM.o _ z.o.f).mono ?_;rintro e w2 ⟨rfl,f2⟩;have C:=hid (z.o.go f2);clear j p d m t;obtain⟨j,p,d,m,t⟩:=five C.o.b
     first
     | (guard_hyp a
        obtain⟨L,I,M,O,K⟩:=five C.o.o;obtain⟨b0,b2,b3,b4,b5⟩:=z11 C.o.o;go_wp2;refine Xg (v:=.tuple #[.agg #[.int .i64 0,.string ⟨#[]⟩,.slice none 0 0,.slice none 0 0,.slice none 0 0],.int .i64 0,.int .i64 2]) (by simp[results,results209,go_sem,L,I,M,O,K]) rfl ?_;exact⟨_,rfl,z0k.nothing _ _,C.o.end5 _ _ _ _ _⟩)
     | (have A:=hid (C.o.alloc (.cells #[.slice P x.list.length c1,.slice Al l.length cl] 24))
        have V3:=hid (Whole.new w2 24 [.slice P x.list.length c1,.slice Al l.length cl]);have CC:=hid (z72 x.list l _ _ w2.heap.size 2 _ B (by omega) (by omega) (by omega) (by omega) (Xd hB A.o.f.size) (H1.o.fr A.o.f hB (by simp)) (HL.o.fr A.o.f hB (by simp)) (V3.o.cell 0) (V3.o.cell 1));go_wp2_with fail;refine CC.o.mono ?_;rintro e w3 ⟨u,rfl,G,f3⟩;have H:=hid (A.o.go f3);have hz:=A.o.lt;obtain⟨U,cu,hu,-⟩:=z05 G;rw[Xk] at hu;subst hu;have HO:=hid G;clear j p d m t G;go_wp2_with fail;refine(OF.o _ _ _ f3.size HO.o).mono ?_;rintro e J ⟨u,rfl,hi,f4⟩;have H:=hid (H.o.step f4 (fun g hg=>by have:=z19 HO.o hg;omega));have HI:=hid hi;obtain⟨X,p1,Y,R,V,Q,rfl⟩:=hi.form;clear hi;have F:=hid (H.o.alloc (.cells #[.int .i64 y.kind,.string y.text,.slice X y.list.length p1,.slice Y y.pairs.length R,.slice V y.scores.length Q] 68));have V5:=hid (Whole.new J 68 [.int .i64 y.kind,.string y.text,.slice X y.list.length p1,.slice Y y.pairs.length R,.slice V y.scores.length Q]);have q:(y.list.length:Int) > 24:=by rw[a6.o];exact q
        obtain⟨L,I,M,O,K⟩:=five F.o.o;obtain⟨b0,b2,b3,b4,b5⟩:=z11 F.o.o;obtain⟨g0,g1,g2,g3,g4⟩:=five V5.o;go_wp2;refine Xg (v:=.tuple #[.agg #[.int .i64 0,.string ⟨#[]⟩,.slice none 0 0,.slice none 0 0,.slice none 0 0],.int .i64 0,.int .i64 2]) (by simp[results,results215,go_sem,L,I,M,O,K]) rfl ?_;exact⟨_,rfl,z0k.nothing _ _,F.o.end5 _ _ _ _ _⟩)
    first
    | (guard_hyp a
       ·
        have E:=hid (show z18 x l=0 from by rw[D.o,Xc (by simpa using ha),Xc (by simpa using hb),Xc T]);have ab:=OK.o ha;have ac:=OS.o hb
        have OF:=hid (fun W base u hu=>z9a (z8m x left l) base u W (by rw[z4v];omega) (fun s hs=>by
         rcases zi1 hs with h|h
         ·
          have:=ab.texts s h;omega
         ·
          have:=ac s h;omega) hu)
        rw[Z.o,EK.o,E.o,Xf rfl,Xf rfl];have q:¬((x.list.length:Int)+(l.length:Int) > 24):=by omega
        have ak:x.list.length+l.length≤24:=by omega
        clear ab ac E D Z EK OK OS ha hb T NO;cases left
        ·
         have EP:=hid (show z8m x false l=x.list++l from rfl);generalize ofL (z8m x false l)=y at *;go_enter func209,ntmps209;go_wp2_with fail;refine(RD.o _ D0.o.f).mono ?_;rintro e w1 ⟨rfl,f1⟩;have z:=hid (D0.o.go f1);clear j p d m t;obtain⟨j,p,d,m,t⟩:=five z.o.b;go_wp2_with fail;refine(SM.o _ z.o.f).mono ?_;rintro e w2 ⟨rfl,f2⟩;have C:=hid (z.o.go f2);clear j p d m t;obtain⟨j,p,d,m,t⟩:=five C.o.b;have A:=hid (C.o.alloc (.cells #[.slice P x.list.length c1,.slice Al l.length cl] 24));have V3:=hid (Whole.new w2 24 [.slice P x.list.length c1,.slice Al l.length cl]);have CC:=hid (z72 x.list l _ _ w2.heap.size 2 _ B (by omega) (by omega) (by omega) (by omega) (Xd hB A.o.f.size) (H1.o.fr A.o.f hB (by simp)) (HL.o.fr A.o.f hB (by simp)) (V3.o.cell 0) (V3.o.cell 1));go_wp2_with fail;refine CC.o.mono ?_;rintro e w3 ⟨u,rfl,G,f3⟩;have H:=hid (A.o.go f3);have hz:=A.o.lt;rw[←EP.o] at G;have HO:=hid G;obtain⟨U,cu,rfl,-⟩:=z05 G;clear j p d m t G;have al:(z8m x false l).length≤24:=by rw[z4v];omega
         go_wp2_with fail;refine(OF.o _ _ _ HO.o).mono ?_;rintro e J ⟨u,rfl,hi,f4⟩;have F:=hid (H.o.go f4);have HI:=hid hi;obtain⟨X,p1,Y,R,V,Q,rfl⟩:=hi.form;clear hi;obtain⟨L,I,M,O,K⟩:=five F.o.o;obtain⟨b0,b2,b3,b4,b5⟩:=z11 F.o.o;go_wp2;refine Xg (v:=.tuple #[.agg #[.int .i64 y.kind,.string y.text,.slice X y.list.length p1,.slice Y y.pairs.length R,.slice V y.scores.length Q],.int .i64 ((z8m x false l).length:Nat),.int .i64 0]) (by simp[results,results209,go_sem,L,I,M,O,K]) rfl ?_;exact⟨_,rfl,(z1v HI.o (by omega) _ _ _ _ _).less (by omega),F.o.end5 _ _ _ _ _⟩
        ·
         have EP:=hid (show z8m x true l=l.reverse++x.list from rfl);generalize ofL (z8m x true l)=y at *;go_enter func209,ntmps209;go_wp2_with fail;refine(RD.o _ D0.o.f).mono ?_;rintro e w1 ⟨rfl,f1⟩;have z:=hid (D0.o.go f1);clear j p d m t;obtain⟨j,p,d,m,t⟩:=five z.o.b;go_wp2_with fail;refine(SM.o _ z.o.f).mono ?_;rintro e w2 ⟨rfl,f2⟩;have C:=hid (z.o.go f2);clear j p d m t;obtain⟨j,p,d,m,t⟩:=five C.o.b;have A:=hid (C.o.alloc (.cells #[.slice P x.list.length c1,.slice Al l.length cl] 24));have V3:=hid (Whole.new w2 24 [.slice P x.list.length c1,.slice Al l.length cl]);have CC:=hid (z72 x.list l _ _ w2.heap.size 2 _ B (by omega) (by omega) (by omega) (by omega) (Xd hB A.o.f.size) (H1.o.fr A.o.f hB (by simp)) (HL.o.fr A.o.f hB (by simp)) (V3.o.cell 0) (V3.o.cell 1));go_wp2_with fail;refine CC.o.mono ?_;rintro e w3 ⟨u,rfl,G,f3⟩;have H:=hid (A.o.go f3);have hz:=A.o.lt;obtain⟨U,cu,rfl,-⟩:=z05 G;clear j p d m t G;have CL:=hid (z4s l.length (z03 l) Al cl w3 B (by omega) (Xd hB H.o.f.size) (HL.o.fr H.o.f hB (by simp)) (z2z l));go_wp2_with fail;refine CL.o.mono ?_;rintro e J ⟨u2,rfl,a7,f4⟩;have F:=hid (H.o.go f4);have ao:=H.o.lt;have RV:=hid (q4e l _ u2 J (by omega) a7);obtain⟨U2,a5,rfl,-⟩:=z05 a7;have ai:=hid a7;clear a7;go_wp2_with fail;refine RV.o.mono ?_;rintro e w5 ⟨rfl,aa,af⟩
         have D6:=hid (F.o.step (S:=z1w (.slice U2 l.length a5)) ((Fr.refl _ J).grown af (fun k hk=>.inl (by cases U2 with|none=>cases hk|some ad=>simp[Value.ownBlock] at hk;simp[z1w,hk]))) (fun g hg=>by
          cases U2 with
          | none=>simp[z1w] at hg
          | some ad=>simp[z1w] at hg;have:=(ai.o.lt g (by simp[Value.ownBlock,hg])).1;omega))
         have ah:=D6.o.lt;have ag:=hid aa;clear aa af;obtain⟨j,p,d,m,t⟩:=five D6.o.b;have D7:=hid (D6.o.alloc (.cells #[.slice U2 l.length a5,.slice P x.list.length c1] 24));have V7:=hid (Whole.new w5 24 [.slice U2 l.length a5,.slice P x.list.length c1]);have az:w.heap.size+1 < w5.heap.size:=ah;have am:=hid (z0l (z08 ag.o ((Fr.refl [] w5).alloc (.cells #[.slice U2 l.length a5,.slice P x.list.length c1] 24)) (by simp)));have CD:=hid (z72 l.reverse x.list (.slice U2 l.length a5) (.slice P x.list.length c1) w5.heap.size 2 _ _ (by simp;omega) (by omega) (by omega) (by omega) (Xb _) (by rw[List.length_reverse];exact am.o) ((H1.o.fr D7.o.f hB (by simp)).more (Xd hB D7.o.f.size)) (V7.o.cell 0) (V7.o.cell 1));go_wp2_with fail;refine CD.o.mono ?_;rintro e w6 ⟨u6,rfl,a8,f6⟩;have D8:=hid (D7.o.go f6);have ax:=D7.o.lt;rw[←EP.o] at a8;have an:=hid a8;obtain⟨U6,av,rfl,-⟩:=z05 a8;clear j p d m t a8;have al:(z8m x true l).length≤24:=by rw[z4v];omega
         go_wp2_with fail;refine(OF.o _ _ _ an.o).mono ?_;rintro e w7 ⟨u7,rfl,hi,f7⟩;have D9:=hid (D8.o.go f7);have HI:=hid hi;obtain⟨X,p1,Y,R,V,Q,rfl⟩:=hi.form;clear hi;obtain⟨L,I,M,O,K⟩:=five D9.o.o;obtain⟨b0,b2,b3,b4,b5⟩:=z11 D9.o.o;go_wp2;refine Xg (v:=.tuple #[.agg #[.int .i64 y.kind,.string y.text,.slice X y.list.length p1,.slice Y y.pairs.length R,.slice V y.scores.length Q],.int .i64 ((z8m x true l).length:Nat),.int .i64 0]) (by simp[results,results209,go_sem,L,I,M,O,K]) rfl ?_;exact⟨_,rfl,(z1v HI.o (by omega) _ _ _ _ _).less (by omega),D9.o.end5 _ _ _ _ _⟩)
    | (·
        have E:=hid (show zgb x l=0 from by rw[D.o,Xc (by simpa using hp),Xc T]);rw[Z.o,EK.o,E.o,Xf rfl,Xf rfl];have q:¬(((z6p x l).length:Int) > 24):=by omega
        have a6:=hid (congrArg List.length EL.o);clear EP D Z EK OA ON OX ha hb T NO hp EL LL E;generalize ofK 3 (z6p x l)=y at *;generalize (z6p x l).length=N at *;go_enter func215,ntmps215;go_wp2_with fail;refine(RD.o _ D0.o.f).mono ?_;rintro e w1 ⟨rfl,f1⟩;have z:=hid (D0.o.go f1);clear j p d m t;obtain⟨j,p,d,m,t⟩:=five z.o.b;go_wp2_with fail;refine(SM.o _ z.o.f).mono ?_;rintro e w2 ⟨rfl,f2⟩;have C:=hid (z.o.go f2);clear j p d m t;obtain⟨j,p,d,m,t⟩:=five C.o.b;have A:=hid (C.o.alloc (.cells #[.slice P x.list.length c1,.slice Al l.length cl] 24));have V3:=hid (Whole.new w2 24 [.slice P x.list.length c1,.slice Al l.length cl]);have CC:=hid (z72 x.list l _ _ w2.heap.size 2 _ B (by omega) (by omega) (by omega) (by omega) (Xd hB A.o.f.size) (H1.o.fr A.o.f hB (by simp)) (HL.o.fr A.o.f hB (by simp)) (V3.o.cell 0) (V3.o.cell 1));go_wp2_with fail;refine CC.o.mono ?_;rintro e w3 ⟨u,rfl,G,f3⟩;have H:=hid (A.o.go f3);have hz:=A.o.lt;obtain⟨U,cu,hu,-⟩:=z05 G;rw[Xk] at hu;subst hu;have HO:=hid G;clear j p d m t G;go_wp2_with fail;refine(OF.o _ _ _ f3.size HO.o).mono ?_;rintro e J ⟨u,rfl,hi,f4⟩;have H:=hid (H.o.step f4 (fun g hg=>by have:=z19 HO.o hg;omega));have HI:=hid hi;obtain⟨X,p1,Y,R,V,Q,rfl⟩:=hi.form;clear hi;have F:=hid (H.o.alloc (.cells #[.int .i64 y.kind,.string y.text,.slice X y.list.length p1,.slice Y y.pairs.length R,.slice V y.scores.length Q] 68));have V5:=hid (Whole.new J 68 [.int .i64 y.kind,.string y.text,.slice X y.list.length p1,.slice Y y.pairs.length R,.slice V y.scores.length Q]);have q:¬((y.list.length:Int) > 24):=by rw[a6.o];omega
        have ao:=H.o.lt;have au:¬w.heap.size=w.heap.size+1:=by omega
        have ar:¬w.heap.size+1=w.heap.size:=by omega
        have aq:¬J.heap.size=w.heap.size+1:=by omega
        have ap:¬w.heap.size+1=J.heap.size:=by omega
        have ae:=hid (HI.o.go ((Fr.refl [] _).alloc (.cells #[.int .i64 y.kind,.string y.text,.slice X y.list.length p1,.slice Y y.pairs.length R,.slice V y.scores.length Q] 68)));go_wp2_with fail;generalize hw5:J.alloc (.cells #[.int .i64 y.kind,.string y.text,.slice X y.list.length p1,.slice Y y.pairs.length R,.slice V y.scores.length Q] 68)=w5;rw[hw5] at F V5 ae;clear hw5;obtain⟨L,I,M,O,K⟩:=five F.o.o;obtain⟨b0,b2,b3,b4,b5⟩:=z11 F.o.o;obtain⟨j,p,d,m,t⟩:=five F.o.b;obtain⟨g0,g1,g2,g3,g4⟩:=five V5.o;go_wp2;go_region_held3 (fun wx=>wx.cell? ⟨w.heap.size,2,none⟩=some (.slice P x.list.length c1)∧wx.cell? ⟨J.heap.size,0,none⟩=some (.int .i64 y.kind)∧wx.cell? ⟨J.heap.size,1,none⟩=some (.string y.text)∧wx.cell? ⟨J.heap.size,2,none⟩=some (.slice X y.list.length p1)∧wx.cell? ⟨J.heap.size,3,none⟩=some (.slice Y y.pairs.length R)∧wx.cell? ⟨J.heap.size,4,none⟩=some (.slice V y.scores.length Q)) (go_keep) (first|fail)
        go_wp2;refine Xg (v:=.tuple #[.agg #[.int .i64 y.kind,.string y.text,.slice X y.list.length p1,.slice Y y.pairs.length R,.slice V y.scores.length Q],.int .i64 (IntKind.i64.wrap ((y.list.length:Int) - (x.list.length:Int))),.int .i64 0]) (by simp[results,results215,go_sem,L,I,M,O,K]) rfl ?_;exact⟨_,by rw[a6.o,HW.o],((z1v (ae.o.go (Fr.refl [] _).drew) (by omega) _ _ _ _ _).less (by omega)),(F.o.go (Fr.refl [] _).drew).end5 _ _ _ _ _⟩)
   ·
    first
    | (guard_hyp a
       have E:=hid (show z18 x l=z1a l from by rw[D.o,Xc (by simpa using ha),Xf hb]))
    | (have hp:zpp x l=z1a l:=by rw[EP.o,Xc (by simpa using ha)]
       have E:=hid (show zgb x l=z1a l from by rw[D.o,hp,Xf hb]))
    obtain⟨e1,e2⟩:=NO.o _ hb E.o;rw[e1,e2,E.o]
    first
    | (guard_hyp a
       have q:(z1a l==0)=false:=by simpa using hb)
    | (skip)
    have q2:(z1a l != 0)=true:=by simpa using hb
    first
    | (guard_hyp a
       clear e1 e2 D Z EK OK OS ha hb NO E)
    | (clear e1 e2 EP D Z EK OA ON OX ha hb NO hp EL LL E)
    generalize z1a l=r at *
    first
    | (guard_hyp a
       go_enter func209,ntmps209)
    | (go_enter func215,ntmps215)
    go_wp2_with fail;refine(RD.o _ D0.o.f).mono ?_;rintro e w1 ⟨rfl,f1⟩;have z:=hid (D0.o.go f1);clear j p d m t;obtain⟨j,p,d,m,t⟩:=five z.o.b;go_wp2_with fail;refine(SM.o _ z.o.f).mono ?_;rintro e w2 ⟨rfl,f2⟩;have C:=hid (z.o.go f2);clear j p d m t;obtain⟨L,I,M,O,K⟩:=five C.o.o;obtain⟨b0,b2,b3,b4,b5⟩:=z11 C.o.o;go_wp2
    first
    | (guard_hyp a
       refine Xg (v:=.tuple #[.agg #[.int .i64 0,.string ⟨#[]⟩,.slice none 0 0,.slice none 0 0,.slice none 0 0],.int .i64 0,.int .i64 r]) (by simp[results,results209,go_sem,L,I,M,O,K]) rfl ?_)
    | (refine Xg (v:=.tuple #[.agg #[.int .i64 0,.string ⟨#[]⟩,.slice none 0 0,.slice none 0 0,.slice none 0 0],.int .i64 0,.int .i64 r]) (by simp[results,results215,go_sem,L,I,M,O,K]) rfl ?_)
    exact⟨_,rfl,z0k.nothing _ _,C.o.end5 _ _ _ _ _⟩
  ·
   first
   | (guard_hyp a
      have E:=hid (show z18 x l=z02 2 x from by rw[D.o,Xf ha]))
   | (have hp:zpp x l=z02 3 x:=by rw[EP.o,Xf ha]
      have E:=hid (show zgb x l=z02 3 x from by rw[D.o,hp,Xf ha]))
   obtain⟨e1,e2⟩:=NO.o _ ha E.o;rw[e1,e2,E.o]
   first
   | (guard_hyp a
      have q:(z02 2 x==0)=false:=by simpa using ha
      have q2:(z02 2 x != 0)=true:=by simpa using ha
      clear e1 e2 D Z EK OK OS ha NO E;generalize z02 2 x=r at *;go_enter func209,ntmps209)
   | (have q2:(z02 3 x != 0)=true:=by simpa using ha
      have q3:(z02 3 x==0)=false:=by simpa using ha
      clear e1 e2 EP D Z EK OA ON OX ha NO hp EL LL E;generalize z02 3 x=r at *;go_enter func215,ntmps215)
   go_wp2_with fail;refine(RD.o _ D0.o.f).mono ?_;rintro e w1 ⟨rfl,f1⟩;have z:=hid (D0.o.go f1);clear j p d m t;obtain⟨L,I,M,O,K⟩:=five z.o.o;obtain⟨b0,b2,b3,b4,b5⟩:=z11 z.o.o;go_wp2
   first
   | (guard_hyp a
      refine Xg (v:=.tuple #[.agg #[.int .i64 0,.string ⟨#[]⟩,.slice none 0 0,.slice none 0 0,.slice none 0 0],.int .i64 0,.int .i64 r]) (by simp[results,results209,go_sem,L,I,M,O,K]) rfl ?_)
   | (refine Xg (v:=.tuple #[.agg #[.int .i64 0,.string ⟨#[]⟩,.slice none 0 0,.slice none 0 0,.slice none 0 0],.int .i64 0,.int .i64 r]) (by simp[results,results215,go_sem,L,I,M,O,K]) rfl ?_)
   exact⟨_,rfl,z0k.nothing _ _,z.o.end5 _ _ _ _ _⟩
abbrev zkg:=@And.left _ _ tw8x
abbrev zs1:=@And.right _ _ tw8x
theorem z9b{w:World}{base e size n:Nat}{v:Value}{xs:List Value}(h:w.ownsRow base e size v n xs){p:Addr}(hp:p.block < base)(u):(w.setCell p u).ownsRow base e size v n xs:=
 z0r u h (fun he=>by have:=(h.lt _ he).1;omega)
theorem zpn{w:World}{base e size n o:Nat}{v:Value}{xs:List Value}(h:w.ownsRow base e size v n xs)(ho:o < base)(a b c d):(set4 w o a b c d).ownsRow base e size v n xs:=
 z9b (z9b (z9b (z9b h ho _) ho _) ho _) ho _
theorem zl8(l:List Rp1)(x:Rp1):z84 (l++[x])=z84 l++rp4 x none 0:=by simp[z84]
theorem q4g(k n:Int)(t):∀u∈[Value.int .i64 k,.string t,.int .i64 n,.slice none 0 0],u.oneCell'=true:=by
 intro u a;simp at a;rcases a with rfl|rfl|rfl|rfl <;> rfl
attribute [local go_sem] z1g
theorem zsv{x:Itm}{s:YY}:(apY x s).Small:=by
 by_cases h:z4d x s=0
 ·obtain⟨_,b,a,_⟩:=ap_ok h;rw[a];exact zab (by simp;omega)
 ·rw[(ap_no h).1];exact z12 0 (by decide)
theorem zsr{x:Itm}{n:Int}:(adY x n).Small:=by
 by_cases h:z4p x n=0
 ·obtain⟨_,_,a,_,_,b,_⟩:=ad_ok h;rw[b];exact zab (by have:=zws a;omega)
 ·rw[(q5d rfl h).1];exact z12 0 (by decide)
theorem zmr(x:Itm)(v)(f:YY)(w:World)(B:Nat)(hs:x.Small)(hB:B≤w.heap.size)(h:z0p w B v x):
  Calls prog 223 #[v,.string f] w (q1b (zxf x f) (z5z x f) w):=by
 have F:=hid (fun W (hf:Fr [] w W)=>zc7 x v W B hs (Xd hB hf.size) (h.fr hf hB (by simp)));obtain⟨R,c1,O,c2,U,T,rfl,S,J,h3⟩:=h;have N:=hid J;have p:=hid (BX.new w (.int .i64 x.kind) (.string x.text) (.slice R x.list.length c1) (.slice O x.pairs.length c2) (.slice U x.scores.length T));obtain⟨z,y,s,t,A⟩:=five p.o.b;have m:=hid (show z5z x f=if z02 4 x≠0 then z02 4 x else match zuj Prod.fst x.pairs f with|some _=>0|none=>5 from rfl)
 have n:=hid (show zxf x f=if z02 4 x≠0 then ⟨#[]⟩ else match zuj Prod.fst x.pairs f with|some q=>q.2|none=>⟨#[]⟩ from rfl)
 have H:=hs.pairs;clear S J h3 hs;by_cases ha:z02 4 x=0
 ·have hr:=z9e ha;rw[ha] at F;have I:=hid (fun W (hW:Fr [] w W)=>zjv x.pairs f O c2 B W hr H (Xd hB hW.size) (N.o.fr hW hB (by simp)));by_cases hh:z4o Prod.fst x.pairs f=true;have d:=hid trivial
  all_goals
   first
   | (guard_hyp d
      obtain⟨C,K⟩:=zz0 Prod.fst hr hh;obtain⟨q,g⟩:=Yo.1 K;rw[g] at C;have k:=hid (show z5z x f=0 from by rw[m.o,Xc (by simpa using ha),g]);have j:=hid (show zxf x f=q.2 from by rw[n.o,Xc (by simpa using ha),g]);rw[k.o,j.o];rw[hh] at I;have Q:=(Xe.1 C).1;obtain⟨b,off,rfl,Z,V,D,a⟩:=N.o.at_ (by omega);have L:=hid (a _ _ (z0f _ _ q C).2);unfold maxLen at D;clear hr ha hh C K g m n k j a)
   | (have l:z4o Prod.fst x.pairs f=false:=by simpa using hh
      have g:=zuk Prod.fst hr l;have k:=hid (show z5z x f=5 from by rw[m.o,Xc (by simpa using ha),g]);have j:=hid (show zxf x f=⟨#[]⟩ from by rw[n.o,Xc (by simpa using ha),g]);rw[k.o,j.o];rw[l] at I;clear hr ha hh l g m n k j)
   generalize z1e Prod.fst x.pairs f=i at *
   first
   | (guard_hyp d
      rw[Ya 2 i] at L)
   | (skip)
   go_enter func223,ntmps223;go_wp2_with fail;refine(F.o _ p.o.f).mono ?_;rintro e P ⟨rfl,E⟩;have u:=hid (p.o.go E);clear z y s t A;obtain⟨z,y,s,t,A⟩:=five u.o.b;go_wp2_with fail;refine(I.o _ u.o.f).mono ?_;rintro e X ⟨rfl,M⟩
   first
   | (guard_hyp d
      have G:=hid (u.o.go M);clear z y s t A;obtain⟨z,y,s,t,A⟩:=five G.o.b;have Y:X.cell? ⟨b,off+i * 2+1,none⟩=some (.string q.2):=G.o.f.cell L.o (by simp);go_wp2;go_ret2;exact⟨rfl,G.o.f⟩)
   | (go_wp2
      go_ret2;exact⟨rfl,u.o.f.trans M⟩)
 ·have k:=hid (show z5z x f=z02 4 x from by rw[m.o,Xf ha]);have j:=hid (show zxf x f=⟨#[]⟩ from by rw[n.o,Xf ha]);rw[k.o,j.o];have q:(z02 4 x != 0)=true:=by simpa using ha
  clear ha m n k j;generalize z02 4 x=r at *;go_enter func223,ntmps223;go_wp2_with fail;refine(F.o _ p.o.f).mono ?_;rintro e P ⟨rfl,E⟩;go_wp2;go_ret2;exact⟨rfl,p.o.f.trans E⟩
theorem q4q(x:Itm)(v)(l:YX)(A)(c:Nat)(w:World)(B:Nat)(hs:x.Small)(hB:B≤w.heap.size)(h:z0p w B v x)(hl:l.length≤281474976710656)(hL:Sl w B 1 (.slice A l.length c) l.length (z03 l)):(Calls prog 226 #[v,.slice A l.length c] w (z57 (zdx x l) (z02 5 x) (z8s x l) w))∧(Calls prog 224 #[v,.slice A l.length c] w (z57 (zjk x l) (z02 4 x) (zd0 x l) w))∧(Calls prog 216 #[v,.slice A l.length c] w (z57 (zf7 3 x l) (z02 3 x) (z8y 3 x l) w)):=by
 refine⟨?_,?_,?_⟩;have j:=hid trivial
 rotate_left
 have d:=hid trivial
 rotate_left
 have a9:=hid trivial
 all_goals
  first
  | (guard_hyp j
     have RD:=hid (fun W (hf:Fr [] w W)=>z9g x v W B hs (Xd hB hf.size) (h.fr hf hB (by simp))))
  | (guard_hyp d
     have RD:=hid (fun W (hf:Fr [] w W)=>zc7 x v W B hs (Xd hB hf.size) (h.fr hf hB (by simp))))
  | (have RD:=hid (fun W (hf:Fr [] w W)=>z9f x v W B hs (Xd hB hf.size) (h.fr hf hB (by simp))))
  obtain⟨T,c1,A2,c2,X,c3,rfl,h1,h2,h3⟩:=h
  first
  | (guard_hyp j
     have H3:=hid h3)
  | (guard_hyp d
     have H2:=hid h2)
  | (have H1:=hid h1)
  have HL:=hid hL;have D0:=hid (BO.newL w (.int .i64 x.kind) (.string x.text) (.slice T x.list.length c1) (.slice A2 x.pairs.length c2) (.slice X x.scores.length c3) (.slice A l.length c));obtain⟨n,t,m,p,z⟩:=five D0.o.b
  have S0:=hid (show(((w.alloc (.cells (yIa x T c1 A2 c2 X c3) 68)).alloc (.cells #[.slice A l.length c] 24)).alloc (.cells yIza 68)).cell? ⟨w.heap.size+1,0,none⟩=some (.slice A l.length c) from by
   have:=((Whole.new (w.alloc (.cells (yIa x T c1 A2 c2 X c3) 68)) 24 [.slice A l.length c]).alloc (.cells yIza 68)).cell 0;simpa using this)
  first
  | (guard_hyp j
     have E:=hid (show z8s x l=if z02 5 x=0 then ofC (z9z x l) else z2q 0 from rfl);have F:=hid (show zdx x l=if z02 5 x=0 then (x.scores.length:Int) - (z9z x l).length else 0 from rfl);clear h1 h2 h3 hs hL;by_cases ha:z02 5 x=0)
  | (guard_hyp d
     have E:=hid (show zd0 x l=if z02 4 x=0 then ofP (zbt x l) else z2q 0 from rfl);have F:=hid (show zjk x l=if z02 4 x=0 then (x.pairs.length:Int) - (zbt x l).length else 0 from rfl);clear h1 h2 h3 hs hL;by_cases ha:z02 4 x=0)
  | (have E:=hid (show z8y 3 x l=if z02 3 x=0 then ofK 3 (za2 x.list l) else z2q 0 from rfl)
     have F:=hid (show zf7 3 x l=if z02 3 x=0 then (x.list.length:Int) - (za2 x.list l).length else 0 from rfl);clear h1 h2 h3 hs hL;by_cases ha:z02 3 x=0)
  ·
   have k:=z1m ha;rw[E.o,F.o,Xf ha,Xf ha,ha];rw[ha] at RD
   first
   | (guard_hyp j
      have a7:=zot l ha;have a5:=(z3t ha).2;have a6:(z9z x l).length≤x.scores.length:=Xv _ _;have Z:=hid (fun W base u C=>zfc (z9z x l) base u W (by omega) a7.1.small C);have CL:=hid (fun W (hW:Fr [] w W)=>zbr x.scores.length (z06 x.scores) X c3 W B (by omega) (Xd hB hW.size) (H3.o.fr hW hB (by simp)) (z5u _));have DF:=hid (fun W base u D (O:zq4 289 #[.pointer (some ⟨w.heap.size+1,0,none⟩)] (fun x=>l.any fun y=>decide (y=x.2)) D W) hD C=>(show Calls prog 288 #[u,.func (Fn.func 289) #[] #[.pointer (some ⟨w.heap.size+1,0,none⟩)]] W (ziu (z9z x l) base u W) from ztn 289 #[.pointer (some ⟨w.heap.size+1,0,none⟩)] (z1b func289 (by kernel_rfl) rfl) (fun x=>l.any fun y=>decide (y=x.2)) D x.scores base u W O hD (by omega) C));clear k a7 E F ha;generalize ofC (z9z x l)=y at *;have HW:=hid (show IntKind.i64.wrap ((x.scores.length:Int) - ((z9z x l).length:Int))=(x.scores.length:Int) - (z9z x l).length from IntWalk.i64_in _ (by omega));generalize z9z x l=r at *;go_enter func226,ntmps226)
   | (guard_hyp d
      have a5:x.pairs.length≤24:=by have:=k.le24;unfold many at this;omega
      have a6:(zbt x l).length≤x.pairs.length:=Xv _ _;have Z:=hid (fun W base u C=>zgh (zbt x l) base u W (by omega) (fun y hy=>by have:=k.fields y (Yj.1 hy).1;omega) C);have CL:=hid (fun W (hW:Fr [] w W)=>zbs x.pairs.length (z0e x.pairs) A2 c2 W B (by omega) (Xd hB hW.size) (H2.o.fr hW hB (by simp)) (zb4 _));have DF:=hid (fun W base u D (O:zq5 280 #[.pointer (some ⟨w.heap.size+1,0,none⟩)] (fun x=>l.any fun y=>decide (y=x.1)) D W) hD C=>(show Calls prog 279 #[u,.func (Fn.func 280) #[] #[.pointer (some ⟨w.heap.size+1,0,none⟩)]] W (ziv (zbt x l) base u W) from ztp 280 #[.pointer (some ⟨w.heap.size+1,0,none⟩)] (z1b func280 (by kernel_rfl) rfl) (fun x=>l.any fun y=>decide (y=x.1)) D x.pairs base u W O hD (by omega) C));clear k E F ha;generalize ofP (zbt x l)=y at *;have HW:=hid (show IntKind.i64.wrap ((x.pairs.length:Int) - ((zbt x l).length:Int))=(x.pairs.length:Int) - (zbt x l).length from IntWalk.i64_in _ (by omega));generalize zbt x l=r at *;go_enter func224,ntmps224)
   | (have a5:x.list.length≤24:=by have:=k.le24;unfold many at this;omega
      have OR:=hid (show rises ltS (za2 x.list l)=true from zjt (fun y=>!z7m l y) (zih ha).1);have a6:(za2 x.list l).length≤x.list.length:=Xv _ _;have Z:=hid (fun W base u hb C=>(show Calls prog 266 #[u] W (zsl (ofK 3 (za2 x.list l)) base u W) from by have:=zle (za2 x.list l) base u W (by omega) (fun y hy=>by have:=k.texts y (Yj.1 hy).1;omega) hb C;rw[zij OR.o] at this;exact this));have CL:=hid (fun W (hW:Fr [] w W)=>z4s x.list.length (z03 x.list) T c1 W B (by omega) (Xd hB hW.size) (H1.o.fr hW hB (by simp)) (z2z _));have DF:=hid (fun W base u D (O:zm0 267 #[.pointer (some ⟨w.heap.size+1,0,none⟩)] (fun x=>z7m l x) D W) hD C=>(show Calls prog 263 #[u,.func (Fn.func 267) #[] #[.pointer (some ⟨w.heap.size+1,0,none⟩)]] W (zdn (za2 x.list l) base u W) from zjf 267 #[.pointer (some ⟨w.heap.size+1,0,none⟩)] (z1b func267 (by kernel_rfl) rfl) (fun x=>z7m l x) D x.list base u W O hD (by omega) C));clear k E F ha;generalize ofK 3 (za2 x.list l)=y at *;have HW:=hid (show IntKind.i64.wrap ((x.list.length:Int) - ((za2 x.list l).length:Int))=(x.list.length:Int) - (za2 x.list l).length from IntWalk.i64_in _ (by omega));generalize za2 x.list l=r at *;go_enter func216,ntmps216)
   go_wp2_with fail;refine(RD.o _ D0.o.f).mono ?_;rintro e w1 ⟨rfl,f1⟩;have s:=hid (D0.o.go f1);have S1:=hid (f1.cell S0.o (by simp));have hz1:=s.o.lt;clear n t m p z;obtain⟨n,t,m,p,z⟩:=five s.o.b;go_wp2_with fail;refine(CL.o _ s.o.f).mono ?_;rintro e w2 ⟨u,rfl,ho,H⟩;have D2:=hid (s.o.go H);have S2:=hid (H.cell S1.o (by simp));have HO:=hid ho;obtain⟨U,cu,rfl,-⟩:=z05 ho
   first
   | (guard_hyp j
      have O:=hid (zqp l A c (w.heap.size+1) w1.heap.size w2 hl H.size (((HL.o.fr s.o.f hB (by simp)).more (Xd hB s.o.f.size)).fr H (Xb _) (by simp)) S2.o (by omega)))
   | (guard_hyp d
      have O:=hid (zqo l A c (w.heap.size+1) w1.heap.size w2 hl H.size (((HL.o.fr s.o.f hB (by simp)).more (Xd hB s.o.f.size)).fr H (Xb _) (by simp)) S2.o (by omega)))
   | (have O:=hid (zwh l A c (w.heap.size+1) w1.heap.size w2 hl H.size (((HL.o.fr s.o.f hB (by simp)).more (Xd hB s.o.f.size)).fr H (Xb _) (by simp)) S2.o (by omega)))
   clear n t m p z ho;obtain⟨n,t,m,p,z⟩:=five D2.o.b;go_wp2_with fail;refine(DF.o _ _ _ _ O.o (Xb _) HO.o).mono ?_;rintro e w3 ⟨u3,rfl,Q,f3,-⟩;have D3:=hid (D2.o.step f3 (fun g hg=>by have:=z19 HO.o hg;omega));have N:=hid Q;obtain⟨U3,ac,rfl,-⟩:=z05 Q;clear n t m p z Q;obtain⟨n,t,m,p,z⟩:=five D3.o.b
   first
   | (guard_hyp a9
      have a8:w1.heap.size≤w3.drew.heap.size:=Xd H.size f3.size)
   | (skip)
   have ab:¬w.heap.size=w.heap.size+1+1:=by omega
   have aa:¬w.heap.size+1+1=w.heap.size:=by omega
   go_wp2
   first
   | (guard_hyp j
      go_region_held3 (fun V=>V.cell? ⟨w.heap.size,4,none⟩=some (.slice X x.scores.length c3)) (go_keep) (first|(go_at_call 287;(refine(Z.o _ _ _ (show w3.drew.ownsRow _ _ _ _ _ _ from N.o)).mono ?_);rintro e w5 ⟨u5,rfl,hi,P⟩;have G:=hid (D3.o.go (z01 P));clear n t m p z P;obtain⟨n,t,m,p,z⟩:=five G.o.b;have HI:=hid hi;obtain⟨P1,p1,P2,S,Y,R,rfl⟩:=hi.form;clear hi;have a:=G.o.o;rw[show w.heap.size+2=w.heap.size+1+1 from rfl] at a;obtain⟨K,I,L,M,J⟩:=five a;obtain⟨b0,b2,b3,b4,b5⟩:=z11 a;clear a))
      go_wp2;refine Xg (v:=.tuple #[.agg (yIa y P1 p1 P2 S Y R),.int .i64 (IntKind.i64.wrap ((x.scores.length:Int) - (r.length:Int))),.int .i64 0]) (by simp[results,results226,go_sem,K,I,L,M,J]) rfl ?_)
   | (guard_hyp d
      go_region_held3 (fun V=>V.cell? ⟨w.heap.size,3,none⟩=some (.slice A2 x.pairs.length c2)) (go_keep) (first|(go_at_call 278;(refine(Z.o _ _ _ (show w3.drew.ownsRow _ _ _ _ _ _ from N.o)).mono ?_);rintro e w5 ⟨u5,rfl,hi,P⟩;have G:=hid (D3.o.go (z01 P));clear n t m p z P;obtain⟨n,t,m,p,z⟩:=five G.o.b;have HI:=hid hi;obtain⟨P1,p1,P2,S,Y,R,rfl⟩:=hi.form;clear hi;have a:=G.o.o;rw[show w.heap.size+2=w.heap.size+1+1 from rfl] at a;obtain⟨K,I,L,M,J⟩:=five a;obtain⟨b0,b2,b3,b4,b5⟩:=z11 a;clear a))
      go_wp2;refine Xg (v:=.tuple #[.agg (yIa y P1 p1 P2 S Y R),.int .i64 (IntKind.i64.wrap ((x.pairs.length:Int) - (r.length:Int))),.int .i64 0]) (by simp[results,results224,go_sem,K,I,L,M,J]) rfl ?_)
   | (go_region_held3 (fun V=>V.cell? ⟨w.heap.size,2,none⟩=some (.slice T x.list.length c1)) (go_keep) (first|(go_at_call 266;(refine(Z.o _ _ _ a8 (show w3.drew.ownsRow _ _ _ _ _ _ from N.o)).mono ?_);rintro e w5 ⟨u5,rfl,hi,P⟩;have G:=hid (D3.o.step (z01 P) (fun g hg=>by have:=z19 N.o hg;omega));clear n t m p z P;obtain⟨n,t,m,p,z⟩:=five G.o.b;have HI:=hid hi;obtain⟨P1,p1,P2,S,Y,R,rfl⟩:=hi.form;clear hi;have a:=G.o.o;rw[show w.heap.size+2=w.heap.size+1+1 from rfl] at a;obtain⟨K,I,L,M,J⟩:=five a;obtain⟨b0,b2,b3,b4,b5⟩:=z11 a;clear a))
      go_wp2;refine Xg (v:=.tuple #[.agg (yIa y P1 p1 P2 S Y R),.int .i64 (IntKind.i64.wrap ((x.list.length:Int) - (r.length:Int))),.int .i64 0]) (by simp[results,results216,go_sem,K,I,L,M,J]) rfl ?_)
   exact⟨_,by rw[HW.o],(z1v HI.o (by omega) _ _ _ _ _).less (by omega),G.o.end5 _ _ _ _ _⟩
  ·
   rw[E.o,F.o,Xc ha,Xc ha]
   first
   | (guard_hyp j
      have q2:(z02 5 x != 0)=true:=by simpa using ha
      clear E F ha;generalize z02 5 x=r at *;go_enter func226,ntmps226)
   | (guard_hyp d
      have q2:(z02 4 x != 0)=true:=by simpa using ha
      clear E F ha;generalize z02 4 x=r at *;go_enter func224,ntmps224)
   | (have q2:(z02 3 x != 0)=true:=by simpa using ha
      clear E F ha;generalize z02 3 x=r at *;go_enter func216,ntmps216)
   go_wp2_with fail;refine(RD.o _ D0.o.f).mono ?_;rintro e w1 ⟨rfl,f1⟩;have s:=hid (D0.o.go f1);clear n t m p z;have a:=s.o.o;rw[show w.heap.size+2=w.heap.size+1+1 from rfl] at a;obtain⟨K,I,L,M,J⟩:=five a;obtain⟨b0,b2,b3,b4,b5⟩:=z11 a;clear a;go_wp2
   first
   | (guard_hyp j
      refine Xg (v:=.tuple #[.agg yIza,.int .i64 0,.int .i64 r]) (by simp[results,results226,go_sem,K,I,L,M,J]) rfl ?_)
   | (guard_hyp d
      refine Xg (v:=.tuple #[.agg yIza,.int .i64 0,.int .i64 r]) (by simp[results,results224,go_sem,K,I,L,M,J]) rfl ?_)
   | (refine Xg (v:=.tuple #[.agg yIza,.int .i64 0,.int .i64 r]) (by simp[results,results216,go_sem,K,I,L,M,J]) rfl ?_)
   exact⟨_,rfl,z0k.nothing _ _,s.o.end5 _ _ _ _ _⟩
abbrev zid:=fun x v l A c w B hs hB h hl hL=>@And.left _ _ (q4q x v l A c w B hs hB h hl hL)
abbrev zcl:=fun x v l A c w B hs hB h hl hL=>@And.left _ _ (@And.right _ _ (q4q x v l A c w B hs hB h hl hL))
abbrev zii:=fun x v l A c w B hs hB h hl hL=>@And.right _ _ (@And.right _ _ (q4q x v l A c w B hs hB h hl hL))
def z5q(l:List Ent)(s:YY):List Ent:=l.filter fun e=>decide (e.key≠s)
theorem zvs(l)(s):(z5q l s).length≤l.length:=Xv _ _
theorem zvu{l:List Ent}(h:rises (ltK Ent.key) l=true)(s):rises (ltK Ent.key) (z5q l s)=true:=z34 ((z2u (z3r Ent.key) h).filter _)
theorem zn6{l:List Ent}(hr:rises (ltK Ent.key) l=true){s:YY}(h:z4o Ent.key l s=false):z5q l s=l:=by
 unfold z5q;rw[Uy];intro e d;refine Xi fun b=>?_;obtain⟨j,a⟩:=Yd d;have:=ze4 Ent.key hr a;rw[b,h] at this;cases this
theorem zn7{l:List Ent}(hr:rises (ltK Ent.key) l=true){s:YY}(h:z4o Ent.key l s=true):z5q l s=l.take (z1e Ent.key l s)++l.drop (z1e Ent.key l s+1):=by
 obtain⟨e,g,rfl⟩:=(z2s Ent.key).1 h;have d:=(Xe.1 g).1
 have j:l=l.take (z1e Ent.key l e.key)++e :: l.drop (z1e Ent.key l e.key+1):=by
  have f:l.drop (z1e Ent.key l e.key)=e :: l.drop (z1e Ent.key l e.key+1):=by
   rw[Yu d];congr 1;rw[Xa d] at g;exact Option.some.inj g
  rw[←f,Uk]
 have no:∀(i:Nat) (a:Ent),l[i]? = some a→i≠z1e Ent.key l e.key→a.key≠e.key:=fun i a b hi d=>by
  have f:=zgi Ent.key hr b;rw[d] at f;exact hi f.symm
 generalize z1e Ent.key l e.key=k at *;unfold z5q
 conv=>lhs;rw[j]
 rw[Vb,Vi,Xc (by simp)];congr 1
 ·rw[Uy];intro a b;obtain⟨i,hi⟩:=Yd b;rw[Un] at hi;split at hi
  ·exact Xi (no i a hi (by omega))
  ·cases hi
 ·rw[Uy];intro a b;obtain⟨i,hi⟩:=Yd b;rw[Yg] at hi;exact Xi (no _ a hi (by omega))
theorem q6a{l:List Ent}{s:YY}{k:Nat}(h1:∀(i:Nat) (a),i < k→l[i]? = some a→z4i a.key s < 0)(h2:∀a,l[k]? = some a→¬z4i a.key s < 0)(hk:k≤l.length):z1e Ent.key l s=k:=by
 rcases Nat.lt_trichotomy (z1e Ent.key l s) k with h|h|h
 ·obtain⟨a,b⟩:∃a,l[z1e Ent.key l s]? = some a:=⟨_,Xa (by omega)⟩;exact absurd (h1 _ a h b) (zek Ent.key b)
 ·exact h
 ·have d:=z63 Ent.key l s;obtain⟨a,b⟩:∃a,l[k]? = some a:=⟨_,Xa (by omega)⟩;exact absurd (z7s Ent.key h b) (h2 a b)
theorem q3n{l:List Ent}(hr:rises (ltK Ent.key) l=true)(s):z1e Ent.key (z5q l s) s=z1e Ent.key l s:=by
 have d:=z63 Ent.key l s;rcases hh:z4o Ent.key l s with _|_
 ·rw[zn6 hr hh]
 ·rw[zn7 hr hh];obtain⟨e,g,h⟩:=(z2s Ent.key).1 hh;have f:=(Xe.1 g).1;refine q6a (fun i a hi b=>?_) (fun a b=>?_) (by rw[Xk,Xp];omega)
  ·rw[Xu (by rw[Xp];omega),Un,Xf hi] at b;exact z7s Ent.key hi b
  ·rw[Xq (by rw[Xp];omega),Xp,Up d,Ux,Yg] at b;exact zel Ent.key hr (by omega) b
def zr1(l:List Ent)(e:Ent):List Ent:=zk7 l e (z1e Ent.key l e.key)
def zrt(l:List Ent)(now:Int)(s:YY)(x:Itm)(u:Int):List Ent:=if 16 < (zr1 (z5q l s) ⟨s,x,u⟩).length then zx0 (zr1 (z5q l s) ⟨s,x,u⟩) now else zr1 (z5q l s) ⟨s,x,u⟩
def z2r(l:List Ent)(now:Int)(s:YY)(x:Itm)(u:Int):Int:=if z0v x=true then 0 else if 16 < (zrt l now s x u).length then 2 else 0
def zb7(l:List Ent)(now:Int)(s:YY)(x:Itm)(u:Int):List Ent:=if z0v x=true then z5q l s else if 16 < (zrt l now s x u).length then [] else zrt l now s x u
theorem zjz{w:World}{base:Nat}{rs:List (List Value)}{l:List Ent}(h:Rel (z38 w base) rs l):∀c∈rs,c.length=7:=fun c hc=>by
 obtain⟨e,_,he⟩:=h.mem hc;exact he.len
theorem zoz{w:World}{base:Nat}{rs:List (List Value)}{l:List Ent}(h:Rel (z38 w base) rs l):∀u∈rs.flatten,u.oneCell'=true:=fun u hu=>by
 obtain⟨c,hc,huc⟩:=Ka.1 hu;obtain⟨e,_,A1,c1,A2,c2,A3,c3,rfl,_⟩:=h.mem hc;exact zde _ _ _ _ _ _ _ u huc
def zo8(l:List Ent)(base:Nat)(v:Value)(w:World)(r:Ending)(w':World):Prop:=∃v',r=.returned v'∧z2a w' base v' l∧Fr (z1w v) w w'∧∀k,k∈z1w v'→k∈z1w v∨w.heap.size≤k
theorem zew{v v':Value}(h:v'.ownBlock=v.ownBlock):z1w v'=z1w v:=by
 unfold Value.ownBlock at h;unfold z1w;split at h <;> split at h <;> simp_all
theorem zub(l:List Ent)(k:Nat)(base:Nat)(v)(w)(hl:l.length≤1000000)(hk:k < l.length)(h:z2a w base v l):
  Calls prog 302 #[v,.int .i64 k,.int .i64 (k+1)] w (zo8 (l.take k++l.drop (k+1)) base v w):=by
 obtain⟨a,r,p,h3⟩:=h;have R:Rel (z38 w base) a l:=⟨r,p⟩;have j:=zjz R;have D:=zyn l.length k (k+1) a.flatten base v w (by omega) (by omega) (by omega) h3 (zoz R);rw[show((k+1:Nat):Int)=(k:Int)+1 from by omega] at D;refine D.mono ?_;rintro e u ⟨n,rfl,f,t,s⟩;have b:=z1u t;rw[z96 7 a k j,zbx 7 a (k+1) j,←List.flatten_append] at f;have d:=((R.take k).append (R.drop (k+1))).imp (fun x e m=>m.row h3 z2f b);refine⟨n,rfl,⟨_,d.len,d.at_,?_⟩,b,fun q g=>.inl (by rw[zew s] at g;exact g)⟩;have e:(l.take k++l.drop (k+1)).length=k+(l.length - (k+1)):=by rw[Xk,Xp,Xr];omega
 rw[e];exact f
theorem q37(l:List Ent)(e)(cs)(k gv:Nat)(base:Nat)(v)(w)(hl:l.length≤1000000)(hk:k≤l.length)(h:z2a w base v l)(he:z38 w base cs e)(hgv:Whole w gv 70 cs)(hne:v.ownBlock≠some gv)(hb:base≤w.heap.size):
  Calls prog 303 #[v,.int .i64 k,.slice (some ⟨gv,0,none⟩) 1 1] w (zo8 (zk7 l e k) base v w):=by
 obtain⟨a,s,p,h3⟩:=h;have R:Rel (z38 w base) a l:=⟨s,p⟩;have m:=zjz R
 have one:∀u∈cs,u.oneCell'=true:=by
  obtain⟨y,c1,A,c2,z,B,rfl,_⟩:=he;exact zde _ _ _ _ _ _ _
 refine(zzd l.length k a.flatten cs base gv v w (by omega) hk h3 (zoz R) one he.len hgv hne hb).mono ?_;rintro r x ⟨n,rfl,f,t,d⟩;have g:=z1u t;unfold z15 at f;rw[z96 7 a k m,zbx 7 a k m,show(a.take k).flatten++cs++(a.drop k).flatten=(a.take k++cs :: a.drop k).flatten from by simp] at f;have j:=((R.take k).append (Rel.cons he (R.drop k))).imp (fun cs e he=>he.row h3 z2f g);refine⟨n,rfl,⟨_,j.len,j.at_,?_⟩,g,fun q b=>?_⟩
 ·rw[zcm l e hk];exact f
 ·rcases d with h5|h5
  ·rw[zew h5] at b;exact .inl b
  ·refine .inr ?_;unfold z1w at b;split at b
   ·simp at b;subst b;simp[Value.ownBlock] at h5;omega
   ·cases b
def q23(l:List Ent)(c:Int)(base:Nat)(v:Value)(w:World)(r:Ending)(w':World):Prop:=∃u,r=.returned (.tuple #[u,.int .i64 c])∧z2a w' base u l∧Fr (z1w v) w w'
theorem ze7{w w':World}{base base' T size n:Nat}{v xv:Value}{xs:List Value}{x:Itm}(h:z0k w base xv x)(ho:w.ownsRow base' T size v n xs)(hT:9≠T∧97≠T∧102≠T)(hf:Fr (z1w v) w w'):z0k w' base xv x:=by
 obtain⟨g,f,d,e,b,a,h3⟩:=h;exact⟨g,f,d,e,z08 b hf (z0w b ho hT.1),z08 a hf (z0w a ho hT.2.1),z08 h3 hf (z0w h3 ho hT.2.2)⟩
def CutR(l':List Ent)(base:Nat)(v:Value)(xv:Value)(x:Itm)(cells:List Value)(w:World)(sv:Value)(wx:World):Prop:=
 ∃A c,sv=.slice A l'.length c∧z2a wx base (.slice A l'.length c) l'∧Fr (z1w v) w wx∧(∀k,k∈z1w (.slice A l'.length c)→k∈z1w v∨w.heap.size≤k)∧Whole wx w.heap.size 68 cells∧z0k wx base xv x
def q59(l':List Ent)(base:Nat)(v:Value)(w:World)(sv:Value)(wx:World):Prop:=
 ∃A c,sv=.slice A l'.length c∧z2a wx base (.slice A l'.length c) l'∧Fr (z1w v) w wx
theorem zlh(l)(v)(now:Int)(s:YY)(x:Itm)(xv)(u:Int)(base:Nat)(w)(hr:rises (ltK Ent.key) l=true)(hl:l.length≤1000)(hsx:x.Small)(h:z2a w base v l)(hx:z0k w base xv x)(hb:base≤w.heap.size):
  Calls prog 252 #[v,.int .i64 now,.string s,xv,.int .i64 u] w (q23 (zb7 l now s x u) (z2r l now s x u) base v w):=by
 obtain⟨A,c,rfl⟩:=h.form;obtain⟨j,p,m,g,r,n,rfl⟩:=hx.form;have D0:=hid (BX.new w (.int .i64 x.kind) (.string x.text) (.slice j x.list.length p) (.slice m x.pairs.length g) (.slice r x.scores.length n));have FD:=hid (fun W (hW:Fr [] w W)=>ze0 l s A c w.heap.size W hr (by omega) hW.size ((h.v.fr hW (Xb _) (by simp))));unfold z3e at FD;have HO:=hid h;have HX:=hid hx;have a2:=hid hsx;have ab:=hid (q3n hr s);have aa:=hid (z63 Ent.key (z5q l s) s);have af:=zvs l s
 have Q:∀k,k∈z1w (.slice A l.length c)→k < w.heap.size:=fun k hk=>by
  obtain⟨ah,_,_,ae⟩:=h;exact zi0 ae k hk
 have U:=hid Q;have HR:=hid hr;clear h hx hsx Q hr;go_enter func252,ntmps252;go_wp2_with fail;refine(FD.o _ D0.o.f).mono ?_;rintro e1 w1 ⟨rfl,f1⟩;have B:=hid (D0.o.go f1);have t:=hid (HO.o.fr B.o.f);have I:=hid (HX.o.go B.o.f);clear f1
 go_upto_if 20 with fail
 go_cut [0,13] (fun sv _ wx=>CutR (z5q l s) base (.slice A l.length c) (.agg (yIa x j p m g r n)) x (yIl x j p m g r n) w sv wx)
 case first=>
  rcases hh:z4o Ent.key l s with _|_
  ·have E:=hid (zn6 HR.o hh);go_wp2;go_meet
   case rel=>
    rw[E.o];exact⟨A,c,rfl,t.o,B.o.f.up,fun k hk=>.inl hk,B.o.b,I.o⟩
  ·have E:=hid (zn7 HR.o hh)
   have ad:z1e Ent.key l s < l.length:=by
    obtain⟨e,he,_⟩:=(z2s Ent.key).1 hh;exact(Xe.1 he).1
   have DE:=hid (zub l (z1e Ent.key l s) base (.slice A l.length c) w1 (by omega) ad t.o);rw[←E.o] at DE;generalize z1e Ent.key l s=k at *;go_wp2_with fail;refine DE.o.mono ?_;rintro e2 w2 ⟨v2,rfl,M,F,d⟩;obtain⟨A2,c2,X⟩:=M.form
   have HH:=hid (show CutR (z5q l s) base (.slice A l.length c) (.agg (yIa x j p m g r n)) x (yIl x j p m g r n) w v2 w2 from by
    subst X;obtain⟨a7,_,_,D⟩:=t.o;exact⟨A2,c2,rfl,M,B.o.f.up.trans F,fun q y=>(d q y).imp id (fun h=>Xd B.o.f.size h),B.o.b.fr F (fun hm=>by have:=U.o _ hm;omega),ze7 I.o D z2f F⟩)
   clear M F d X;go_wp2;go_meet
   case rel=>exact HH.o
 case rest=>
  obtain⟨A2,c2,rfl,M,F,d,G,O⟩:=hcut;have H:=hid M;have F2:=hid F;have T:=hid d;have P:=hid G;have a0:=hid O;have hz2:=G.lt;clear M F d G O FD HO t HX I D0 B;obtain⟨d0,d1,d2,d3,d4⟩:=five P.o;have NO:=hid (z7u x (.agg (yIa x j p m g r n)) _ _ a2.o (Xb _) a0.o.item);by_cases hn:z0v x=true
  ·have E1:=hid (show zb7 l now s x u=z5q l s from Xf hn);have E2:=hid (show z2r l now s x u=0 from Xf hn);rw[hn] at NO;clear hn;go_wp2_with fail;refine NO.o.mono ?_;rintro e3 R ⟨rfl,z⟩;have Z:=hid z;clear z;go_wp2;go_ret2;rw[E1.o,E2.o];exact⟨_,rfl,H.o.fr Z.o,F2.o.trans Z.o.up⟩
  ·have S:z0v x=false:=by simpa using hn
   have E1:=hid (show zb7 l now s x u=if 16 < (zrt l now s x u).length then [] else zrt l now s x u from Xc hn);have E2:=hid (show z2r l now s x u=if 16 < (zrt l now s x u).length then 2 else 0 from Xc hn);rw[S] at NO;clear hn S;go_wp2_with fail;refine NO.o.mono ?_;rintro e3 R ⟨rfl,z⟩;have Z:=hid (F2.o.trans z.up);have K:=hid (H.o.fr z);have a5:=hid (P.o.fr z (by simp));have a8:=hid (a0.o.go z);have ag:=z.size;clear z d0 d1 d2 d3 d4;obtain⟨d0,d1,d2,d3,d4⟩:=five a5.o;have G3:=hid ((Fr.refl [] R).alloc (.cells #[.string s,.int .i64 x.kind,.string x.text,.slice j x.list.length p,.slice m x.pairs.length g,.slice r x.scores.length n,.int .i64 u] 70));have W3:=hid (Whole.new R 70 [.string s,.int .i64 x.kind,.string x.text,.slice j x.list.length p,.slice m x.pairs.length g,.slice r x.scores.length n,.int .i64 u])
   have IN:=hid (q37 (z5q l s) ⟨s,x,u⟩ [.string s,.int .i64 x.kind,.string x.text,.slice j x.list.length p,.slice m x.pairs.length g,.slice r x.scores.length n,.int .i64 u] (z1e Ent.key (z5q l s) s) R.heap.size base (.slice A2 (z5q l s).length c2) (R.alloc (.cells #[.string s,.int .i64 x.kind,.string x.text,.slice j x.list.length p,.slice m x.pairs.length g,.slice r x.scores.length n,.int .i64 u] 70)) (by omega) aa.o (K.o.fr G3.o) (by
    obtain⟨L1,L,L3,hv,o1,o2,o3⟩:=a8.o.go G3.o;cases hv;exact⟨_,_,_,_,_,_,rfl,o1,o2,o3⟩) W3.o (by
    intro y;obtain⟨a7,_,_,D⟩:=K.o;have:=(D.lt _ y).2;omega) (by simp;omega))
   rw[show zk7 (z5q l s) ⟨s,x,u⟩ (z1e Ent.key (z5q l s) s)=zr1 (z5q l s) ⟨s,x,u⟩ from rfl,ab.o] at IN;have a9:=hid (show(zr1 (z5q l s) ⟨s,x,u⟩).length=(z5q l s).length+1 from zcm _ _ (z63 _ _ _));have EP:=hid (show zrt l now s x u=if 16 < (zr1 (z5q l s) ⟨s,x,u⟩).length then zx0 (zr1 (z5q l s) ⟨s,x,u⟩) now else zr1 (z5q l s) ⟨s,x,u⟩ from rfl);generalize z1e Ent.key l s=k at *;generalize z5q l s=lo at *;generalize zr1 lo ⟨s,x,u⟩=L at *;go_wp2_with fail;refine IN.o.mono ?_;rintro e4 w4 ⟨v4,rfl,J,f4,a1⟩;obtain⟨A4,c4,rfl⟩:=J.form;have V:=hid J;have F4:=hid ((Z.o.trans G3.o.up).step f4 (fun q y=>T.o q y));have ac:=hid (fun q y=>(a1 q y).elim (fun h=>T.o q h) (fun h=>Or.inr (Xd (Xd Z.o.size G3.o.size) h)));have ai:L.length≤1001:=by have:=a9.o;omega
   clear J f4 a1 d0 d1 d2 d3 d4 K H;generalize zrt l now s x u=N at *
   go_upto_if 39 with fail
   go_cut [0,39] (fun sv _ wx=>q59 N base (.slice A l.length c) w sv wx)
   case first=>
    by_cases h16:16 < L.length
    ·have C:=hid (EP.o.trans (Xf h16));have SW:=hid (zx1 L (.slice A4 L.length c4) now base w4 (by omega) V.o);rw[←C.o] at SW;have a4:(L.length:Int) > 16:=by omega
     clear h16 C;go_wp2_with fail;refine SW.o.mono ?_;rintro e5 w5 ⟨v5,rfl,a,Y⟩;obtain⟨A5,c5,rfl⟩:=a.form;have HH:=hid (show q59 N base (.slice A l.length c) w (.slice A5 N.length c5) w5 from⟨A5,c5,rfl,a,F4.o.step Y (fun q y=>ac.o q y)⟩);clear a Y;go_wp2;go_meet
     case rel=>exact HH.o
    ·have C:=hid (EP.o.trans (Xc h16));have a4:¬(L.length:Int) > 16:=by omega
     clear h16;go_wp2;go_meet
     case rel=>
      rw[C.o];exact⟨A4,c4,rfl,V.o,F4.o⟩
   case rest=>
    obtain⟨A5,c5,rfl,a,Y⟩:=hcut;have a3:=hid a;have F5:=hid Y;clear a Y EP;by_cases h17:16 < N.length
    ·have C:=hid (E1.o.trans (Xf h17));have E4:=hid (E2.o.trans (Xf h17));have a6:(N.length:Int) > 16:=by omega
     clear h17;go_wp2;go_ret2;rw[C.o,E4.o];exact⟨_,rfl,z2a.nil _ _,F5.o⟩
    ·have C:=hid (E1.o.trans (Xc h17));have E4:=hid (E2.o.trans (Xc h17));have a6:¬(N.length:Int) > 16:=by omega
     clear h17;go_wp2;go_ret2;rw[C.o,E4.o];exact⟨_,rfl,a3.o,F5.o⟩
end
end Go.Proofs.YtnmoajaelmimnaaGreatDoor
