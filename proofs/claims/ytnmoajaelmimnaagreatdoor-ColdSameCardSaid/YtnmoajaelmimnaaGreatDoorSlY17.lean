/- Contracts; no condition but each theorem's own. -/
import Derived.Test.YtnmoajaelmimnaaGreatDoorSlY15
import Derived.Maps.RangeWalk
set_option linter.unusedVariables false
set_option linter.unusedSimpArgs false
set_option maxHeartbeats 8000000
set_option maxRecDepth 100000
namespace Go.Proofs.YtnmoajaelmimnaaGreatDoor
open Go.Proofs.Tryz
section
open Go.RowKit
def z6f(x:Itm):Int:=if x.kind=0 then 0 else (z5l x.text.data.toList).getD 0
def z4p(x:Itm)(n:Int):Int:=if z02 1 x≠0 then z02 1 x else if x.kind≠0∧z5l x.text.data.toList=none then 1 else if z0o n=true∧z0o (z6f x+n)=true then 0 else 3
def adY(x:Itm)(n:Int):Itm:=if z4p x n=0 then z50 ⟨(Lib.itoa (z6f x+n)).toArray⟩ else z2q 0
def adN(x:Itm)(n:Int):Int:=if z4p x n=0 then z6f x+n else 0
theorem q5d{x:Itm}{n c:Int}(h:z4p x n=c)(hc:c≠0):adY x n=z2q 0∧adN x n=0:=by
 have a:z4p x n≠0:=by rw[h];exact hc
 exact⟨by unfold adY;rw[Xc a],by unfold adN;rw[Xc a]⟩
theorem q5e{x:Itm}{n s:Int}(h:z4p x n=0)(hs:z6f x+n=s):adY x n=z50 ⟨(Lib.itoa s).toArray⟩∧adN x n=s:=by
 rw[←hs];exact⟨by unfold adY;rw[Xf h],by unfold adN;rw[Xf h]⟩
theorem z6k{n:Int}(h:z0o n=true):-999999999≤n∧n≤999999999:=by
 unfold z0o at h;simpa using h
theorem zmu{l:List UInt8}{v:Int}(h:z5l l=some v):-999999999≤v∧v≤999999999:=z6k (z7o.1 h).1
theorem z59{n:Int}{b:Bool}(h:z0o n=b)(w):Calls prog 116 #[.int .i64 n] w fun e w'=>e=.returned (.bool b)∧w=w':=
 (z7p n w).mono fun e w' ⟨he,hw⟩=>⟨by rw[he,h],hw.symm⟩
theorem q70:(∀(x:Itm) (v) (s:YY) (w:World) (B:Nat) (hs:x.Small) (hB:B≤w.heap.size) (h:z0p w B v x) (hq:s.size≤281474976710656),Calls prog 195 #[v,.string s] w (z57 (apN x s) (z4d x s) (apY x s) w))∧(∀(x:Itm) (v) (n:Int) (w:World) (B:Nat) (hs:x.Small) (hB:B≤w.heap.size) (h:z0p w B v x) (hn:-9223372036854775808≤n∧n≤9223372036854775807) (hw:Vars w),Calls prog 199 #[v,.int .i64 n] w (z57 (adN x n) (z4p x n) (adY x n) w)):=by
 refine⟨?_,?_⟩;have C:=hid trivial
 rotate_left
 have a7:=hid trivial
 all_goals
  first
  | (guard_hyp C
     intro x v s w B hs hB h hq)
  | (intro x v n w B hs hB h hn hw)
  have X:=hid (fun W (N:Fr [] w W)=>zgx x v W B hs (Xd hB N.size) (h.fr N hB (by simp)));obtain⟨A1,c1,A2,c2,A3,c3,rfl,h1,h2,h3⟩:=h;have G:=hid (BO.new w (.int .i64 x.kind) (.string x.text) (.slice A1 x.list.length c1) (.slice A2 x.pairs.length c2) (.slice A3 x.scores.length c3));obtain⟨k,j,d,g,l⟩:=five G.o.b;have hz:=hs.text;clear h1 h2 h3 hs
  first
  | (guard_hyp C
     have T:=hid (show z4d x s=if z02 1 x≠0 then z02 1 x else if 60 < x.text.size+s.size then 2 else 0 from rfl);have EY:=hid (show apY x s=if z4d x s=0 then z50 (x.text++s) else z2q 0 from rfl);have EN:=hid (show apN x s=if z4d x s=0 then ((x.text.size+s.size:Nat):Int) else 0 from rfl);have AD:=hid (addS x.text s (by omega));have SZ:=hid (show(x.text++s).size=x.text.size+s.size from by simp))
  | (have TI:=hid (fun W (N:Fr [] w W)=>zac x.text W (hw.fr N) hz)
     have O:=hid (fun W (N:Fr [] w W) s hs=>zp9 s W (hw.fr N) hs);clear hw;have AK:=hid (fun(h:z02 1 x=0)=>(z1m h).kind);have T:=hid (show z4p x n=if z02 1 x≠0 then z02 1 x else if x.kind≠0∧z5l x.text.data.toList=none then 1 else if z0o n=true∧z0o (z6f x+n)=true then 0 else 3 from rfl);have EW:=hid (show z6f x=if x.kind=0 then 0 else (z5l x.text.data.toList).getD 0 from rfl);have F:=hid (fun s=>@q5e x n s);have R:=hid (fun c=>@q5d x n c))
  by_cases ha:z02 1 x=0
  ·
   rw[ha] at X
   first
   | (guard_hyp C
      by_cases hc:60 < x.text.size+s.size)
   | (have P:=hid (T.o.trans (Xc (by simpa using ha)))
      have hk:=AK.o ha;clear T AK ha;by_cases h0:x.kind=0)
   ·
    first
    | (guard_hyp C
       have E:=hid (show z4d x s=2 from by rw[T.o,Xc (by simpa using ha),Xf hc]);have t:apY x s=z2q 0:=by rw[EY.o,E.o];rfl
       have p:apN x s=0:=by rw[EN.o,E.o];rfl
       rw[t,p,E.o];have q:(x.text.size:Int)+(s.size:Int) > 60:=by omega
       clear t p E T EY EN ha hc;go_enter func195,ntmps195;go_wp2_with fail;refine(X.o _ G.o.f).mono ?_;rintro e w1 ⟨rfl,M⟩;have a:=hid (G.o.go M);clear k j d g l;obtain⟨k,j,d,g,l⟩:=five a.o.b;obtain⟨J,L,K,H,I⟩:=five a.o.o;obtain⟨b0,Y,b3,b4,b5⟩:=z11 a.o.o;go_wp2;refine Xg (v:=.tuple #[.agg #[.int .i64 0,.string ⟨#[]⟩,.slice none 0 0,.slice none 0 0,.slice none 0 0],.int .i64 0,.int .i64 2]) (by simp[results,results195,go_sem,J,L,K,H,I]) rfl ?_;exact⟨_,rfl,z0k.nothing _ _,a.o.end5 _ _ _ _ _⟩)
    | (have D:=hid (EW.o.trans (Xf h0))
       have A:=hid (P.o.trans (Xc (fun h=>h.1 h0)));clear EW P TI hk;have k0:(x.kind != 0)=false:=by simpa using h0
       have k1:(x.kind==1)=false:=by rw[h0];rfl
       clear h0;by_cases hi:z0o n=true
       ·
        have V:z6f x+n=n:=by rw[D.o];omega
        have E:=A.o.trans (Xf ⟨hi,by rw[V];exact hi⟩);obtain⟨t,p⟩:=F.o n E V;rw[t,p,E];obtain⟨b1,Y⟩:=z6k hi;have Z:=hi;have IN:=hid (fun W=>z59 (show z0o n=true from hi) W);have IS:=hid (fun W=>z59 (show z0o (n)=true from Z) W);have U:=hid (fun W N=>O.o W N (n) (by omega));clear O;have O:=U;clear U;generalize (⟨(Lib.itoa (n)).toArray⟩:YY)=y at *;clear V E t p A D F R hi Z;go_enter func199,ntmps199;go_wp2_with fail;refine(X.o _ G.o.f).mono ?_;rintro e w1 ⟨rfl,M⟩;have a:=hid (G.o.go M);clear k j d g l;obtain⟨k,j,d,g,l⟩:=five a.o.b;go_wp2_with fail;refine(IN.o _).mono ?_;rintro e w9 ⟨rfl,rfl⟩;go_wp2_with fail;refine(IS.o _).mono ?_;rintro e w9 ⟨rfl,rfl⟩;go_wp2_with fail;refine(O.o _ a.o.f).mono ?_;rintro e Q ⟨rfl,S⟩;have z:=hid (a.o.go S);clear k j d g l;obtain⟨k,j,d,g,l⟩:=five z.o.b;go_wp2_with fail;refine(zio y _).mono ?_;rintro e w3 ⟨rfl,f3⟩;have D3:=hid (z.o.go f3);clear k j d g l;obtain⟨k,j,d,g,l⟩:=five D3.o.b;obtain⟨J,L,K,H,I⟩:=five D3.o.o;obtain⟨b0,Y,b3,b4,b5⟩:=z11 D3.o.o;go_wp2;refine Xg (v:=.tuple #[.agg #[.int .i64 1,.string y,.slice none 0 0,.slice none 0 0,.slice none 0 0],.int .i64 (n),.int .i64 0]) (by simp[results,results199,go_sem,J,L,K,H,I]) rfl ?_;exact⟨_,rfl,z0k.text _ _ _,D3.o.end5 _ _ _ _ _⟩
       ·
        have E:=A.o.trans (Xc (fun h=>hi h.1));obtain⟨t,p⟩:=R.o 3 E (by decide);rw[t,p,E];have IN:=hid (fun W=>z59 (show z0o n=false from by simpa using hi) W);clear E t p A D F R hi O;go_enter func199,ntmps199;go_wp2_with fail;refine(X.o _ G.o.f).mono ?_;rintro e w1 ⟨rfl,M⟩;have a:=hid (G.o.go M);clear k j d g l;obtain⟨k,j,d,g,l⟩:=five a.o.b;go_wp2_with fail;refine(IN.o _).mono ?_;rintro e w9 ⟨rfl,rfl⟩;obtain⟨J,L,K,H,I⟩:=five a.o.o;obtain⟨b0,Y,b3,b4,b5⟩:=z11 a.o.o;go_wp2;refine Xg (v:=.tuple #[.agg #[.int .i64 0,.string ⟨#[]⟩,.slice none 0 0,.slice none 0 0,.slice none 0 0],.int .i64 0,.int .i64 3]) (by simp[results,results199,go_sem,J,L,K,H,I]) rfl ?_;exact⟨_,rfl,z0k.nothing _ _,a.o.end5 _ _ _ _ _⟩)
   ·
    first
    | (guard_hyp C
       have E:=hid (show z4d x s=0 from by rw[T.o,Xc (by simpa using ha),Xc hc]);have t:apY x s=z50 (x.text++s):=by rw[EY.o,E.o];rfl
       have p:apN x s=((x.text.size+s.size:Nat):Int):=by rw[EN.o,E.o];rfl
       rw[t,p,E.o];have q:¬((x.text.size:Int)+(s.size:Int) > 60):=by omega
       have a6:=AD.o;have a5:=SZ.o;clear t p E T EY EN ha hc AD SZ;go_enter func195,ntmps195;go_wp2_with fail;refine(X.o _ G.o.f).mono ?_;rintro e w1 ⟨rfl,M⟩;have a:=hid (G.o.go M);clear k j d g l;obtain⟨k,j,d,g,l⟩:=five a.o.b;generalize x.text++s=y at *;go_wp2_with fail;refine(zio y _).mono ?_;rintro e Q ⟨rfl,S⟩;have z:=hid ((a.o.go S).alloc (.cells #[.int .i64 1,.string y,.slice none 0 0,.slice none 0 0,.slice none 0 0] 68));have V2:=hid (Whole.new Q 68 [.int .i64 1,.string y,.slice none 0 0,.slice none 0 0,.slice none 0 0]);clear k j d g l;obtain⟨k,j,d,g,l⟩:=five V2.o;obtain⟨J,L,K,H,I⟩:=five z.o.o;obtain⟨b0,Y,b3,b4,b5⟩:=z11 z.o.o;have hz2:=(a.o.go S).lt;have n0:¬(w.heap.size+1=Q.heap.size):=by omega
       have n1:¬(Q.heap.size=w.heap.size+1):=by omega
       clear hz2;go_wp2_with fail;go_region_held3 (fun wx=>wx.cell? ⟨Q.heap.size,0,none⟩=some (.int .i64 1)∧wx.cell? ⟨Q.heap.size,1,none⟩=some (.string y)∧wx.cell? ⟨Q.heap.size,2,none⟩=some (.slice none 0 0)∧wx.cell? ⟨Q.heap.size,3,none⟩=some (.slice none 0 0)∧wx.cell? ⟨Q.heap.size,4,none⟩=some (.slice none 0 0)) (go_keep) (first|fail)
       go_wp2;refine Xg (v:=.tuple #[.agg #[.int .i64 1,.string y,.slice none 0 0,.slice none 0 0,.slice none 0 0],.int .i64 ((x.text.size:Int)+(s.size:Int)),.int .i64 0]) (by simp[results,results195,go_sem,J,L,K,H,I,a5]) rfl ?_;exact⟨_,rfl,z0k.text _ _ _,(z.o.end5 _ _ _ _ _).drew⟩)
    | (obtain hk1:x.kind=1:=by omega
       have D:=hid (EW.o.trans (Xc h0));clear EW;have k0:(x.kind != 0)=true:=by simpa using h0
       have k1:(x.kind==1)=true:=by rw[hk1];rfl
       cases hL:z5l x.text.data.toList with
       | none=>
        have E:=P.o.trans (Xf ⟨h0,hL⟩);obtain⟨t,p⟩:=R.o 1 E (by decide);rw[t,p,E];have TN:=hid (fun W N=>(TI.o W N).mono (fun e w' ⟨m,he,hm,hv,hr⟩=>(show ∃m:Int,e=Ending.returned (.tuple #[.int .i64 m,.bool false])∧Fr [] W w' from⟨m,by rw[he,hL];rfl,hr⟩)));clear TI O;clear E t p P D F R hL h0 hk hk1;go_enter func199,ntmps199;go_wp2_with fail;refine(X.o _ G.o.f).mono ?_;rintro e w1 ⟨rfl,M⟩;have a:=hid (G.o.go M);clear k j d g l;obtain⟨k,j,d,g,l⟩:=five a.o.b;go_wp2_with fail;refine(TN.o _ a.o.f).mono ?_;rintro e Q ⟨m,rfl,S⟩;have z:=hid (a.o.go S);clear k j d g l;obtain⟨k,j,d,g,l⟩:=five z.o.b;obtain⟨J,L,K,H,I⟩:=five z.o.o;obtain⟨b0,Y,b3,b4,b5⟩:=z11 z.o.o;go_wp2;refine Xg (v:=.tuple #[.agg #[.int .i64 0,.string ⟨#[]⟩,.slice none 0 0,.slice none 0 0,.slice none 0 0],.int .i64 0,.int .i64 1]) (by simp[results,results199,go_sem,J,L,K,H,I]) rfl ?_;exact⟨_,rfl,z0k.nothing _ _,z.o.end5 _ _ _ _ _⟩
       | some u=>
        have A:=hid (P.o.trans (Xc (fun h=>by rw[hL] at h;cases h.2)));obtain⟨u1,u2⟩:=zmu hL;have V:z6f x+n=u+n:=by rw[D.o,hL];rfl
        have TN:=hid (fun W N=>(TI.o W N).mono (fun e w' ⟨m,he,hm,hv,hr⟩=>(show e=Ending.returned (.tuple #[.int .i64 u,.bool true])∧Fr [] W w' from⟨by rw[he,hL,hv u hL];rfl,hr⟩)));clear TI;clear P hL h0 hk hk1;by_cases hi:z0o n=true
        ·
         obtain⟨b1,Y⟩:=z6k hi;by_cases Z:z0o (u+n)=true
         ·
          have E:=A.o.trans (Xf ⟨hi,by rw[V];exact Z⟩);obtain⟨t,p⟩:=F.o (u+n) E V;rw[t,p,E];obtain⟨b3,b4⟩:=z6k Z;have IN:=hid (fun W=>z59 (show z0o n=true from hi) W);have IS:=hid (fun W=>z59 (show z0o (u+n)=true from Z) W);have U:=hid (fun W N=>O.o W N (u+n) (by omega));clear O;have O:=U;clear U;generalize (⟨(Lib.itoa (u+n)).toArray⟩:YY)=y at *;clear V E t p A D F R hi Z;go_enter func199,ntmps199;go_wp2_with fail;refine(X.o _ G.o.f).mono ?_;rintro e w1 ⟨rfl,M⟩;have a:=hid (G.o.go M);clear k j d g l;obtain⟨k,j,d,g,l⟩:=five a.o.b;go_wp2_with fail;refine(TN.o _ a.o.f).mono ?_;rintro e Q ⟨rfl,S⟩;have z:=hid (a.o.go S);clear k j d g l;obtain⟨k,j,d,g,l⟩:=five z.o.b;go_wp2_with fail;refine(IN.o _).mono ?_;rintro e w9 ⟨rfl,rfl⟩;go_wp2_with fail;refine(IS.o _).mono ?_;rintro e w9 ⟨rfl,rfl⟩;go_wp2_with fail;refine(O.o _ z.o.f).mono ?_;rintro e w3 ⟨rfl,f3⟩;have D3:=hid (z.o.go f3);clear k j d g l;obtain⟨k,j,d,g,l⟩:=five D3.o.b;go_wp2_with fail;refine(zio y _).mono ?_;rintro e w4 ⟨rfl,f4⟩;have D4:=hid (D3.o.go f4);clear k j d g l;obtain⟨k,j,d,g,l⟩:=five D4.o.b;obtain⟨J,L,K,H,I⟩:=five D4.o.o;obtain⟨b0,Y,b3,b4,b5⟩:=z11 D4.o.o;go_wp2;refine Xg (v:=.tuple #[.agg #[.int .i64 1,.string y,.slice none 0 0,.slice none 0 0,.slice none 0 0],.int .i64 (u+n),.int .i64 0]) (by simp[results,results199,go_sem,J,L,K,H,I]) rfl ?_;exact⟨_,rfl,z0k.text _ _ _,D4.o.end5 _ _ _ _ _⟩
         ·
          have E:=A.o.trans (Xc (fun h=>Z (by rw[←V];exact h.2)));obtain⟨t,p⟩:=R.o 3 E (by decide);rw[t,p,E];have IN:=hid (fun W=>z59 (show z0o n=true from hi) W);have IS:=hid (fun W=>z59 (show z0o (u+n)=false from by simpa using Z) W);clear V E t p A D F R hi Z O;go_enter func199,ntmps199;go_wp2_with fail;refine(X.o _ G.o.f).mono ?_;rintro e w1 ⟨rfl,M⟩;have a:=hid (G.o.go M);clear k j d g l;obtain⟨k,j,d,g,l⟩:=five a.o.b;go_wp2_with fail;refine(TN.o _ a.o.f).mono ?_;rintro e Q ⟨rfl,S⟩;have z:=hid (a.o.go S);clear k j d g l;obtain⟨k,j,d,g,l⟩:=five z.o.b;go_wp2_with fail;refine(IN.o _).mono ?_;rintro e w9 ⟨rfl,rfl⟩;go_wp2_with fail;refine(IS.o _).mono ?_;rintro e w9 ⟨rfl,rfl⟩;obtain⟨J,L,K,H,I⟩:=five z.o.o;obtain⟨b0,Y,b3,b4,b5⟩:=z11 z.o.o;go_wp2;refine Xg (v:=.tuple #[.agg #[.int .i64 0,.string ⟨#[]⟩,.slice none 0 0,.slice none 0 0,.slice none 0 0],.int .i64 0,.int .i64 3]) (by simp[results,results199,go_sem,J,L,K,H,I]) rfl ?_;exact⟨_,rfl,z0k.nothing _ _,z.o.end5 _ _ _ _ _⟩
        ·
         have E:=A.o.trans (Xc (fun h=>hi h.1));obtain⟨t,p⟩:=R.o 3 E (by decide);rw[t,p,E];have IN:=hid (fun W=>z59 (show z0o n=false from by simpa using hi) W);clear V E t p A D F R hi O;go_enter func199,ntmps199;go_wp2_with fail;refine(X.o _ G.o.f).mono ?_;rintro e w1 ⟨rfl,M⟩;have a:=hid (G.o.go M);clear k j d g l;obtain⟨k,j,d,g,l⟩:=five a.o.b;go_wp2_with fail;refine(TN.o _ a.o.f).mono ?_;rintro e Q ⟨rfl,S⟩;have z:=hid (a.o.go S);clear k j d g l;obtain⟨k,j,d,g,l⟩:=five z.o.b;go_wp2_with fail;refine(IN.o _).mono ?_;rintro e w9 ⟨rfl,rfl⟩;obtain⟨J,L,K,H,I⟩:=five z.o.o;obtain⟨b0,Y,b3,b4,b5⟩:=z11 z.o.o;go_wp2;refine Xg (v:=.tuple #[.agg #[.int .i64 0,.string ⟨#[]⟩,.slice none 0 0,.slice none 0 0,.slice none 0 0],.int .i64 0,.int .i64 3]) (by simp[results,results199,go_sem,J,L,K,H,I]) rfl ?_;exact⟨_,rfl,z0k.nothing _ _,z.o.end5 _ _ _ _ _⟩)
  ·
   first
   | (guard_hyp C
      have E:=hid (show z4d x s=z02 1 x from by rw[T.o,Xf ha]);have t:apY x s=z2q 0:=by rw[EY.o,E.o,Xc ha]
      have p:apN x s=0:=by rw[EN.o,E.o,Xc ha]
      rw[t,p,E.o])
   | (have E:=T.o.trans (Xf ha)
      obtain⟨t,p⟩:=R.o _ E ha;rw[t,p,E])
   have q:(z02 1 x != 0)=true:=by simpa using ha
   have q':(z02 1 x==0)=false:=by simpa using ha
   first
   | (guard_hyp C
      clear t p E T EY EN ha)
   | (clear E t p T EW F R AK ha TI O)
   generalize z02 1 x=r at *
   first
   | (guard_hyp C
      go_enter func195,ntmps195)
   | (go_enter func199,ntmps199)
   go_wp2_with fail;refine(X.o _ G.o.f).mono ?_;rintro e w1 ⟨rfl,M⟩;have a:=hid (G.o.go M);clear k j d g l;obtain⟨k,j,d,g,l⟩:=five a.o.b;obtain⟨J,L,K,H,I⟩:=five a.o.o;obtain⟨b0,Y,b3,b4,b5⟩:=z11 a.o.o;go_wp2
   first
   | (guard_hyp C
      refine Xg (v:=.tuple #[.agg #[.int .i64 0,.string ⟨#[]⟩,.slice none 0 0,.slice none 0 0,.slice none 0 0],.int .i64 0,.int .i64 r]) (by simp[results,results195,go_sem,J,L,K,H,I]) rfl ?_)
   | (refine Xg (v:=.tuple #[.agg #[.int .i64 0,.string ⟨#[]⟩,.slice none 0 0,.slice none 0 0,.slice none 0 0],.int .i64 0,.int .i64 r]) (by simp[results,results199,go_sem,J,L,K,H,I]) rfl ?_)
   exact⟨_,rfl,z0k.nothing _ _,a.o.end5 _ _ _ _ _⟩
abbrev znw:=@And.left _ _ q70
abbrev q0y:=@And.right _ _ q70
def z8y(k:Int)(x:Itm)(m:YX):Itm:=if z02 k x=0 then ofK k (za2 x.list m) else z2q 0
def zf7(k:Int)(x:Itm)(m:YX):Int:=if z02 k x=0 then (x.list.length:Int) - (za2 x.list m).length else 0
theorem zc7(x:Itm)(v)(w:World)(B:Nat)(hs:x.Small)(hB:B≤w.heap.size)(h:z0p w B v x):
  Calls prog 274 #[v] w fun e w'=>e=.returned (.int .i64 (z02 4 x))∧Fr [] w w':=by
 have M:=hid (fun W (hf:Fr [] w W)=>zj0 x 4 v W B hs (Xd hB hf.size) (h.fr hf hB (by simp)));obtain⟨b,c1,g,c2,d,j,rfl,m,l,h3⟩:=h;have a:Fr [] w (w.alloc (.cells (yIa x b c1 g c2 d j) 68)):=(Fr.refl [] w).alloc _;go_enter func274,ntmps274;go_wp2_with fail;refine(M.o _ a).mono ?_;rintro e k ⟨rfl,f⟩;go_wp2;go_ret;exact⟨rfl,a.trans f⟩
def zkw(l:List (YY×YY)):Itm:=⟨4,⟨#[]⟩,[],l,[]⟩
theorem zqy(l:List (YY×YY))(A)(c:Nat)(w:World)(B:Nat)(hs:(zkw l).Small)(hB:B≤w.heap.size)(h:Sl w B 2 (.slice A l.length c) l.length (z0e l)):
  Calls prog 278 #[.slice A l.length c] w fun e w'=>e=.returned (if l.length=0 then .agg #[.int .i64 0,.string ⟨#[]⟩,.slice none 0 0,.slice none 0 0,.slice none 0 0] else .agg #[.int .i64 4,.string ⟨#[]⟩,.slice none 0 0,.slice A l.length c,.slice none 0 0])∧Fr [] w w':=by
 have j:z0p w B (.agg #[.int .i64 4,.string ⟨#[]⟩,.slice none 0 0,.slice A l.length c,.slice none 0 0]) (zkw l):=⟨none,0,A,c,none,0,rfl,Sl.nil _ _ _,h,Sl.nil _ _ _⟩;have O:=hid (fun W (hf:Fr [] w W)=>(show Calls prog 309 #[.agg #[.int .i64 4,.string ⟨#[]⟩,.slice none 0 0,.slice A l.length c,.slice none 0 0]] W fun e w'=>e=.returned (if l.length=0 then .agg yIza else .agg #[.int .i64 4,.string ⟨#[]⟩,.slice none 0 0,.slice A l.length c,.slice none 0 0])∧Fr [] W w' from by have:=zpk (zkw l) (.agg #[.int .i64 4,.string ⟨#[]⟩,.slice none 0 0,.slice A l.length c,.slice none 0 0]) W B hs (Xd hB hf.size) (j.fr hf hB (by simp)) (show(4:Int)≠1 by decide);unfold ofV at this;rw[show many (zkw l)=l.length from by show 0+l.length+0=l.length;omega] at this;exact this));have m:Fr [] w (w.alloc (.cells yIza 68)):=(Fr.refl [] w).alloc _;have r:=hid (show Whole (w.alloc (.cells yIza 68)) w.heap.size 68 yIzl from Whole.new w _ _);clear j h hs;by_cases hm:l.length=0;have a:=hid trivial
 all_goals
  first
  | (guard_hyp a
     rw[Xf hm] at O ⊢)
  | (rw[Xc hm] at O ⊢)
  clear hm;go_enter func278,ntmps278;go_wp2_with fail;refine(O.o _ m).mono ?_;rintro e t ⟨rfl,g⟩;have s:=m.trans g;have d:=hid (r.o.fr g (by simp));obtain⟨f,k,n,p,b⟩:=five d.o;obtain⟨x,z,C,y,u⟩:=z11 d.o;go_wp2
  first
  | (guard_hyp a
     refine Xg (v:=.agg yIza) (by simp[results,results278,go_sem,f,k,n,p,b]) rfl ?_)
  | (refine Xg (v:=.agg #[.int .i64 4,.string ⟨#[]⟩,.slice none 0 0,.slice A l.length c,.slice none 0 0]) (by simp[results,results278,go_sem,f,k,n,p,b]) rfl ?_)
  refine⟨rfl,z6s s (Xb _) _ _ _ _ _⟩
def ofP(l:List (YY×YY)):Itm:=if l.length=0 then z2q 0 else zkw l
theorem zez{l:List (YY×YY)}(hl:l.length≤1000000)(ht:∀s∈l,s.1.size≤281474976710656∧s.2.size≤281474976710656):(zkw l).Small:=
 ⟨by show -9223372036854775808≤(4:Int)∧(4:Int)≤9223372036854775807;omega,by show(⟨#[]⟩:YY).size≤_;decide,by show 0≤_;omega,by show l.length≤_;omega,by show 0≤_;omega,(fun p hp=>by cases hp),ht,(fun p hp=>by cases hp)⟩
def OwnI4(base:Nat)(x:Itm)(w:World)(e:Ending)(w':World):Prop:=∃u,e=.returned u∧z0k w' base u x∧Fr [] w w'
theorem zgh(l:List (YY×YY))(base:Nat)(v)(w:World)(hl:l.length≤1000000)(ht:∀s∈l,s.1.size≤281474976710656∧s.2.size≤281474976710656)(h:w.ownsRow base 97 2 v l.length (z0e l)):
  Calls prog 278 #[v] w (OwnI4 base (ofP l) w):=by
 obtain⟨A,c,rfl,-⟩:=z05 h;refine(zqy l A c w w.heap.size (zez hl ht) (Xb _) (z0l h)).mono ?_;rintro e b ⟨rfl,a⟩;unfold ofP;by_cases h0:l.length=0
 ·rw[Xf h0,Xf h0];exact⟨_,rfl,z0k.nothing _ _,a⟩
 ·rw[Xc h0,Xc h0];exact⟨_,rfl,⟨_,_,_,rfl,⟨rfl,.inl ⟨rfl,rfl⟩⟩,z08 h a (by simp),⟨rfl,.inl ⟨rfl,rfl⟩⟩⟩,a⟩
theorem q0g(a b)(w):Calls prog 275 #[.agg #[.string a,.string b]] w fun e w'=>e=.returned (.bool (decide (60 < a.size)||decide (60 < b.size)))∧Fr [] w w':=by
 have f:=hid (fun W=>z3m a W);have g:=hid (fun W=>z3m b W);by_cases h:60 < a.size;have d:=hid trivial
 all_goals
  first
  | (guard_hyp d
     rw[Xi h] at f ⊢)
  | (rw[Xl h] at f ⊢)
  go_enter func275,ntmps275;go_wp2_with fail;refine(f.o _).mono ?_;rintro e j ⟨rfl,rfl⟩
  first
  | (guard_hyp d
     skip)
  | (go_wp2_with fail
     refine(g.o _).mono ?_;rintro e j ⟨rfl,rfl⟩)
  go_wp2;go_ret;exact⟨rfl,(Fr.refl [] w).alloc _⟩
theorem zwa(D:Nat)(w):zq5 275 #[] z5e D w:=fun W x hW=>q0g x.1 x.2 W
theorem ztf(g:Nat)(lb:Array Value)(eg:∀args w,(callFunc g args).run prog w=.ok (.enter g args) w)(p:(YY×YY)→Bool)(D:Nat)(l:List (YY×YY))(A:YV)(c B:Nat)(w)(hp:zq5 g lb p D w)(hl:l.length≤281474976710656)(hB:B≤w.heap.size)
  (hsl:Sl w B 2 (.slice A l.length c) l.length (z0e l)):
  Calls prog 182 #[.slice A l.length c,.func (Fn.func g) #[] lb] w fun e w'=>e=.returned (.bool (l.any p))∧Fr [] w w':=by
 have I:=hid (zp5 g lb eg p D l A c B w hp hl hB hsl);have h:=z61 p l;clear hsl hp;generalize z3c p l=r at *;generalize l.any p=b at *;generalize l.length=n at *;cases b;have a:=hid trivial
 all_goals
  first
  | (guard_hyp a
     have hr:r < 0:=by simpa using h)
  | (have hr:0≤r:=by simpa using h)
  clear h;go_enter func182,ntmps182;go_wp2_with fail;refine I.o.mono ?_;rintro e f ⟨rfl,d⟩;go_wp2;go_ret;exact⟨by simp <;> omega,d⟩
theorem zu6(x:YY×YY)(l:YX)(A)(c g B:Nat)(w:World)(hl:l.length≤281474976710656)(hB:B≤w.heap.size)(h:Sl w B 1 (.slice A l.length c) l.length (z03 l))(hg:w.cell? ⟨g,0,none⟩=some (.slice A l.length c)):
  Calls prog 280 (#[.agg #[.string x.1,.string x.2]]++#[.pointer (some ⟨g,0,none⟩)]) w fun e w'=>e=.returned (.bool (l.any fun y=>decide (y=x.1)))∧Fr [] w w':=by
 have a:Fr [] w (w.alloc (.cells #[.string x.1,.string x.2] 97)):=(Fr.refl [] w).alloc _;have d:=hid (show Whole (w.alloc (.cells #[.string x.1,.string x.2] 97)) w.heap.size 97 [.string x.1,.string x.2] from Whole.new w _ _);have k:=hid (fun W (hf:Fr [] w W)=>z7i l x.1 A c B W hl (Xd hB hf.size) (h.fr hf hB (by simp)));have f:g < w.heap.size:=World.block_lt_of_cell? w _ hg;have j:(w.alloc (.cells #[.string x.1,.string x.2] 97)).cell? ⟨g,0,none⟩=some (.slice A l.length c):=a.cell hg (by simp);have n:(w.alloc (.cells #[.string x.1,.string x.2] 97)).cell? ⟨w.heap.size,0,none⟩=some (.string x.1):=d.o.cell 0;generalize (l.any fun y=>decide (y=x.1))=b at *;clear h hg;go_enter func280,ntmps280;go_wp2_with fail;refine(k.o _ a).mono ?_;rintro e m ⟨rfl,rfl⟩;go_wp2;go_ret;exact⟨rfl,a⟩
theorem zqo(l:YX)(A)(c g D:Nat)(w:World)(hl:l.length≤281474976710656)(hD:D≤w.heap.size)(h:Sl w D 1 (.slice A l.length c) l.length (z03 l))(hc:w.cell? ⟨g,0,none⟩=some (.slice A l.length c))(hg:g < D):
  zq5 280 #[.pointer (some ⟨g,0,none⟩)] (fun x=>l.any fun y=>decide (y=x.1)) D w:=
 fun W x hW=>zu6 x l A c g D W hl (Xd hD hW.size) (zwu h hW (Xb _)) (z5j hW hc hg (by simp))
def kS(s:YY):Lit:=.string s.data.toList
theorem zuw{a b:YY}(h:kS a=kS b):a=b:=by
 have e:=Lit.string.inj h;rw[←zpz a,←zpz b,e]
theorem q1l(s):WideAt.IsKeyLit (kS s):=by unfold kS WideAt.IsKeyLit;trivial
def nI(n:Nat):DataW Unit:=.lit (.int .i64 n)
def zqe(ts:YX)(s:YY):Nat:=(ts.filter fun t=>decide (t=s)).length
theorem z9y(a b)(s):zqe (a++b) s=zqe a s+zqe b s:=by unfold zqe;simp
theorem zoj(t s):zqe [t] s=if t=s then 1 else 0:=by
 unfold zqe;by_cases e:t=s <;> simp[e]
theorem q2i(ts)(s):zqe ts s≤ts.length:=Xv _ _
theorem zmq(a b)(s):z7m (a++b) s=(z7m a s||z7m b s):=by
 rw[Va,Jp,z3f,z3f,z3f,Ys]
structure Cnt(D:DataW Unit)(ts:YX):Prop where
 at_:∀s,D.atKey (kS s) (nI 0)=nI (zqe ts s)
 has:∀s,Maps.has D (kS s)=z7m ts s
 isMap:Maps.IsMap D
theorem Cnt.start:Cnt (.map []) []:=⟨fun s=>rfl,fun s=>rfl,Maps.isMap_empty⟩
theorem Cnt.put{D:DataW Unit}{ts:YX}(h:Cnt D ts)(s):Cnt (D.put (kS s) (nI (zqe ts s+1))) (ts++[s]):=by
 refine⟨fun t=>?_,fun t=>?_,h.isMap.put _ _⟩
 ·rw[z9y,zoj];by_cases e:s=t
  ·subst e;rw[Maps.atKey_put_same h.isMap (q1l s),Xf rfl]
  ·rw[Maps.atKey_put_other (fun a=>e (zuw a).symm),h.at_,Xc e,Ye]
 ·by_cases e:t=s
  ·subst e;rw[Maps.has_put_same h.isMap (q1l t)];exact(z3f.2 (by simp)).symm
  ·rw[Maps.has_put_other (fun a=>e (zuw a)),h.has,Va,z3f,z3f];simp[e]
def q63(l:List Itm)(s:YY):Nat:=(l.filter fun x=>z7m x.list s).length
def zcy(l:List Itm):YX:=l.flatMap (·.list)
theorem znl{l:YX}(h:rises ltS l=true):l.Nodup:=by
 refine(z2u zgl h).imp fun {a b} h=>?_;rintro rfl;have:=Yl h;rw[z64] at this;omega
theorem zdu:∀ {l:YX},l.Nodup→∀s,zqe l s=if z7m l s=true then 1 else 0
 | [],_,s=>rfl
 | t :: l,h,s=>by
  have h':=List.nodup_cons.1 h;have ih:=zdu h'.2 s;rw[show t :: l=[t]++l from rfl,z9y,zoj,zmq,ih];by_cases e:t=s
  ·subst e;have h1:z7m [t] t=true:=z3f.2 (by simp);have h2:¬z7m l t=true:=fun hm=>h'.1 (z3f.1 hm);simp[h1,h2]
  ·have h1:z7m [t] s=false:=by
    rcases hh:z7m [t] s with _|_
    ·rfl
    ·exact absurd (show s=t by simpa using z3f.1 hh) (fun h=>e h.symm)
   simp[h1,e]
theorem zm6{l:YX}(h:rises ltS l=true)(s):zqe l s=if z7m l s=true then 1 else 0:=zdu (znl h) s
theorem zjc:∀ {l:List Itm},(∀x∈l,rises ltS x.list=true)→∀s,zqe (zcy l) s=q63 l s
 | [],_,s=>rfl
 | x :: l,h,s=>by
  have ih:=zjc (l:=l) (fun y hy=>h y (by simp[hy])) s;unfold zcy at ih ⊢;unfold q63 at ih ⊢;rw[Ul,z9y,ih,zm6 (h x (by simp)),Vi];split
  ·rw[Xy];omega
  ·omega
def z39(k:Int):List Itm→Int
 | []=>0
 | x :: l=>if z02 k x≠0 then z02 k x else z39 k l
theorem zck{k:Int}:∀ {l:List Itm},z39 k l=0→∀x∈l,z02 k x=0
 | [],_,x,hx=>by cases hx
 | y :: l,h,x,hx=>by
  unfold z39 at h;by_cases e:z02 k y=0
  ·rw[Xc (by simpa using e)] at h;rcases Yh.1 hx with rfl|hx
   ·exact e
   ·exact zck h x hx
  ·rw[Xf e] at h;exact absurd h e
theorem zcj{k:Int}:∀ {l:List Itm} {i:Nat} {x:Itm},(∀y∈l.take i,z02 k y=0)→l[i]? = some x→z02 k x≠0→z39 k l=z02 k x
 | [],i,x,_,h,_=>by simp at h
 | y :: l,0,x,_,h,hx=>by
  simp at h;subst h;unfold z39;rw[Xf hx]
 | y :: l,i+1,x,hp,h,hx=>by
  have hy:z02 k y=0:=hp y (by simp);unfold z39;rw[Xc (by simpa using hy)];exact zcj (i:=i) (fun z hz=>hp z (by rw[Jn];exact Vw _ hz)) (by simpa using h) hx
theorem zar{k:Int}:∀ {l:List Itm},(∀y∈l,z02 k y=0)→z39 k l=0
 | [],_=>rfl
 | y :: l,h=>by
  unfold z39;rw[Xc (by simpa using h y (by simp))];exact zar fun z hz=>h z (by simp[hz])
def z13(l:List Itm):Int:=if l.length=0 then 1 else z39 3 l
def q1k:List Itm→YX
 | []=>[]
 | x :: _=>x.list
def pick(p:Nat→Bool→Bool)(l:List Itm)(s:YY):Bool:=p (q63 l s) (z7m (q1k l) s)
def z2x(p:Nat→Bool→Bool)(l:List Itm):YX:=if z13 l=0 then z9u ((zcy l).filter (pick p l)) else []
structure Coll(ts:YX)(p:YY→Bool)(left:Lit→Bool)(d:YX):Prop where
 nodup:d.Nodup
 mem:∀s,s∈d↔s∈ts∧left (kS s)=false∧p s=true
theorem Coll.start{D:DataW Unit}{ts:YX}{p:YY→Bool}(h:Cnt D ts):Coll ts p (Maps.has D) []:=
 ⟨List.nodup_nil,fun s=>⟨(fun h=>by cases h),(fun⟨h1,h2,_⟩=>by rw[h.has,z3f.2 h1] at h2;cases h2)⟩⟩
theorem zpe{left:Lit→Bool}{x s:YY}:(left (kS s)&&!(kS s).sameKey (kS x))=false↔left (kS s)=false∨s=x:=by
 by_cases e:s=x
 ·subst e;have:(kS s).sameKey (kS s)=true:=by unfold kS Lit.sameKey;simp
  simp[this]
 ·have:(kS s).sameKey (kS x)=false:=Maps.sameKey_ne (fun h=>e (zuw h));simp[this,e]
theorem Coll.take{ts:YX}{p:YY→Bool}{left:Lit→Bool}{d:YX}(h:Coll ts p left d){x:YY}(hx:x∈ts)(hl:left (kS x)=true)(hp:p x=true):Coll ts p (fun z=>left z&&!z.sameKey (kS x)) (d++[x]):=by
 have l:x∉d:=fun j=>by have:=((h.mem x).1 j).2.1;rw[hl] at this;cases this
 refine⟨List.nodup_append.2 ⟨h.nodup,by simp,fun a k b g=>?_⟩,fun s=>?_⟩
 ·simp at g;subst g;rintro rfl;exact l k
 ·show _↔s∈ts∧(left (kS s)&&!(kS s).sameKey (kS x))=false∧_;rw[zpe,Ys,h.mem];constructor
  ·rintro(⟨e,f,h3⟩|e)
   ·exact⟨e,.inl f,h3⟩
   ·simp at e;subst e;exact⟨hx,.inr rfl,hp⟩
  ·rintro⟨e,f|rfl,h3⟩
   ·exact .inl ⟨e,f,h3⟩
   ·exact .inr (by simp)
theorem Coll.leave{ts:YX}{p:YY→Bool}{left:Lit→Bool}{d:YX}(h:Coll ts p left d){x:YY}(hp:p x=false):Coll ts p (fun z=>left z&&!z.sameKey (kS x)) d:=by
 refine⟨h.nodup,fun s=>?_⟩;show _↔s∈ts∧(left (kS s)&&!(kS s).sameKey (kS x))=false∧_;rw[zpe,h.mem];constructor
 ·rintro⟨a,b,h3⟩;exact⟨a,.inl b,h3⟩
 ·rintro⟨a,b|rfl,h3⟩
  ·exact⟨a,b,h3⟩
  ·rw[hp] at h3;cases h3
theorem zfi{d:YX}(h:d.Nodup):rises ltS (z8n d)=true:=by
 refine z34 ?_;have e:(z8n d).Nodup:=(z7e d).nodup_iff.2 h;have:=(zpw d).and e;refine this.imp fun {a b} ⟨h1,hne⟩=>Xi ?_;rcases Jh (z4i a b) 0 with h3|h3|h3
 ·exact h3
 ·exact absurd (za6 h3) hne
 ·exact absurd (by have:=z78 a b;omega) h1
theorem Coll.done{ts:YX}{p:YY→Bool}{left:Lit→Bool}{d:YX}(h:Coll ts p left d)(hl:∀k,left k=false):z8n d=z9u (ts.filter p):=by
 refine zf8 (zfi h.nodup) (z9i _) (fun s=>?_);rw[(z7e d).mem_iff,h.mem,z9h,Yj];exact⟨fun⟨a,_,c⟩=>⟨a,c⟩,fun⟨a,c⟩=>⟨a,hl _,c⟩⟩
theorem Coll.le{ts:YX}{p:YY→Bool}{left:Lit→Bool}{d:YX}(h:Coll ts p left d):d.length≤ts.length:=by
 have:=zfi h.nodup;have a:=zwl this (l:=ts) (fun s hs=>((h.mem s).1 ((z7e d).mem_iff.1 hs)).1);rw[z48] at a;exact a
def zxq(l:YX)(base:Nat)(v:Value)(w:World)(e:Ending)(w':World):Prop:=e=.returned (.tuple #[])∧w'.ownsRow base 9 1 v l.length (z03 (z8n l))∧w.grownBy w' v.ownBlock
def zxl(l:YX)(base:Nat)(v:Value)(w:World)(e:Ending)(w':World):Prop:=∃v',e=.returned v'∧w'.ownsRow base 9 1 v' (zfs l).length (z03 (zfs l))∧w.grownBy w' v.ownBlock∧v'.ownBlock=v.ownBlock
theorem q7d(l:YX)(base:Nat)(v)(w:World)(hl:l.length≤281474976710656)(h:w.ownsRow base 9 1 v l.length (z03 l)):(Calls prog 310 #[v] w (zxq l base v w))∧(Calls prog 311 #[v] w (zxl l base v w)):=by
 refine⟨?_,?_⟩;have b:=hid trivial
 rotate_left
 have u:=hid trivial
 all_goals
  obtain⟨A,c,rfl,D,C,B⟩:=z05 h;rcases Yq l.length with h0|h0
  ·
   have e:l=[]:=Xo h0;subst e
   first
   | (guard_hyp b
      refine(Tryz.slices_Sort_string_none A c w).mono ?_;rintro e f ⟨rfl,rfl⟩;exact⟨rfl,by rw[show z8n []=[] from Xo (z48 [])];exact h,z98 _ _⟩)
   | (refine(Tryz.slices_Compact_string_empty A c w).mono ?_
      rintro e f ⟨rfl,rfl⟩;exact⟨_,rfl,by rw[show zfs []=[] from rfl];exact h,z98 _ _,rfl⟩)
  ·
   rcases h.2 with⟨_,hn⟩|⟨g,cap,cur,hv,hb,hg,h1,h2,h3,h4⟩
   ·
    omega
   ·
    cases hv;have k:Sort.Holds encStr w g 0 (datas l).toArray:=holds_of_block hg (by rw[z24,z8z];simpa using h4)
    first
    | (guard_hyp b
       have:=Tryz.slices_Sort_string g 0 c (datas l) w k (Uv.1 hg).1 (by rw[z24];omega))
    | (have:=Tryz.slices_Compact_string g 0 c (datas l) w k (by rw[z24];omega) (by rw[z24];omega))
    rw[z24] at this;refine this.mono ?_
    first
    | (guard_hyp b
       rintro e f ⟨rfl,n,os,rfl⟩;refine⟨rfl,?_,grownBy_sorted _⟩;have j:=ownsRow_sorted (base:=base) (n:=n) (os:=os) (ss:=datas l) (ts:=(datas l).mergeSort fun x y=>decide (x≤y)) (by simp) hb hg (by rw[z24];exact h1) h2 h3;rw[z24] at j
       have e:((datas l).mergeSort fun x y=>decide (x≤y)).map encStr=z03 (z8n l):=by
        rw[←z8z];unfold z8n;rw[zon]
       rw[e] at j;exact j)
    | (rintro e f ⟨rfl,q,rfl⟩
       have t:(Lib.compact (datas l)).length≤l.length:=by have:=Lib.compact_length_le (datas l);rw[z24] at this;exact this
       have d:(zfs l).length=(Lib.compact (datas l)).length:=by unfold zfs;simp
       obtain⟨ts,a⟩:∃ts,ts=Lib.compact (datas l)++List.replicate (l.length - (Lib.compact (datas l)).length) []:=⟨_,rfl⟩;have z:ts.length=l.length:=by rw[a,Xk,List.length_replicate];omega
       have m:=heap_sorted (n:=q) (os:=#[]) ts.toArray hg;have p:=grownBy_sorted (w:=w) (g:=g) (n:=q) (os:=#[]) ts.toArray;rw[Sort.grow_empty] at m p;rw[←a];refine⟨_,rfl,?_,p,rfl⟩;rw[d];refine⟨by rw[z8a,d,Vo],.inr ⟨g,c,_,rfl,hb,m,by omega,h2,by simp[Sort.putCells,h3],?_⟩⟩;have r:=take_putCells cur ts (by omega);rw[Vo]
       have s:∀(L:List Value),L.take (Lib.compact (datas l)).length=(L.take ts.length).take (Lib.compact (datas l)).length:=fun L=>by
        rw[Vm,Up (by omega)]
       rw[s,r,a,Vu,List.take_left' (by simp)];rw[←z8z];unfold zfs;rw[zon])
abbrev zlg:=fun l base v w hl h=>@And.left _ _ (q7d l base v w hl h)
abbrev zte:=fun l base v w hl h=>@And.right _ _ (q7d l base v w hl h)
def q21(b:Bool)(w:World)(e:Ending)(w':World):Prop:=(∃i:Int,e=.returned (.tuple #[.int .i64 i,.bool b]))∧Fr [] w w'
theorem q3c{l:YX}{s:YY}(hr:rises ltS l=true):z4o id l s=z7m l s:=by
 rw[Va,z2s,z3f];constructor
 ·rintro⟨q,b,rfl⟩;exact Xj b
 ·intro h;obtain⟨k,a⟩:=Yd h;have:=zgi id (show rises (ltK id) l=true from hr) a;exact⟨s,by rw[show z1e id l s=k from this];exact a,rfl⟩
theorem zy0(l)(s:YY)(A)(c B:Nat)(w:World)(hr:rises ltS l=true)(hl:l.length≤281474976710656)(hB:B≤w.heap.size)(h:Sl w B 1 (.slice A l.length c) l.length (z03 l)):
  Calls prog 313 #[.slice A l.length c,.string s] w (q21 (z7m l s) w):=by
 have K:=hid h;have r:=z63 id l s;have Q:=hid (show rises (ltK id) l=true from hr);have u:=hid (q3c (s:=s) hr);clear h hr;go_enter func313,ntmps313;go_wp2;go_loopg [7,8] l.length (fun g O M wr=>∃(j hi:Nat),g=hi - j∧O=.int .i64 j∧M=.int .i64 hi∧j≤z1e id l s∧z1e id l s≤hi∧hi≤l.length∧Fr [] w wr)
 case atStart=>exact⟨0,l.length,rfl,rfl,rfl,Xt _,r,Xb _,Fr.refl _ _⟩
 case round=>
  obtain⟨j,hi,rfl,rfl,rfl,F,C,h3,J⟩:=hrel;have p:=hid J;clear J;by_cases hlt:j < hi
  ·obtain⟨m,L⟩:∃m,m=(j+hi) / 2:=⟨_,rfl⟩;have H:m < l.length:=by omega
   obtain⟨b,off,rfl,N,P,G,a⟩:=K.o.at_ (by omega);obtain⟨q,k⟩:∃q,l[m]? = some q:=⟨_,Xa H⟩;have c1:=p.o.cell (show w.cell? ⟨b,off+m,none⟩=some (.string q) from a _ _ (z0x l m q k)) (by simp);have t:((j:Int)+(hi:Int)) / 2=(m:Int):=by omega
   have I:=hid L
   have n:(ltS q s=true→m < z1e id l s)∧(ltS q s=false→z1e id l s≤m):=⟨fun h=>by
    rcases Yc m (z1e id l s) with h'|h'
    ·exact h'
    ·exact absurd (Yl h) (zel id Q.o h' k),fun h=>by
    rcases Yc m (z1e id l s) with h'|h'
    ·exact absurd (z7s id h' k) (of_decide_eq_false h)
    ·exact h'⟩
   have x:=hid n;clear a k n L;by_cases d:ltS q s=true
   ·have y:=x.o.1 d;have E:Op.bytesLess q.toList s.toList=true:=(q1d q s).trans d;clear d x;go_wp2;clear t;go_roundg (hi - (m+1))
    case measure=>have:=I.o;omega
    case rel=>exact⟨m+1,hi,rfl,by go_num,rfl,by omega,C,h3,p.o⟩
   ·have d:ltS q s=false:=by simpa using d
    have y:=x.o.2 d;have E:Op.bytesLess q.toList s.toList=false:=(q1d q s).trans d;clear d x;go_wp2;clear t;go_roundg (m - j)
    case measure=>have:=I.o;omega
    case rel=>exact⟨j,m,rfl,rfl,rfl,F,y,by omega,p.o⟩
  ·obtain rfl:hi=j:=by omega
   obtain⟨D,f⟩:∃D,D=z1e id l s:=⟨_,rfl⟩;obtain rfl:hi=D:=by omega
   have R:=hid f;by_cases y:hi < l.length
   ·obtain⟨b,off,rfl,N,P,G,a⟩:=K.o.at_ (by omega);obtain⟨q,k⟩:∃q,l[hi]? = some q:=⟨_,Xa y⟩;have c1:=p.o.cell (show w.cell? ⟨b,off+hi,none⟩=some (.string q) from a _ _ (z0x l hi q k)) (by simp)
    have z:=hid (show z7m l s=decide (q=s) from by
     rw[←u.o];unfold z4o;rw[←f,k];refine decide_eq_decide.2 ⟨fun h=>za6 h,fun h=>?_⟩;rw[h];exact z64 _)
    clear a k f F C u;by_cases d:q=s
    ·have E:(q.toList==s.toList)=true:=by have:=eqB q s;rw[Xi d] at this;exact this
     have e:=hid (z.o.trans (Xi d));clear z d;go_wp2;go_ret2;rw[e.o];exact⟨⟨_,rfl⟩,p.o⟩
    ·have E:(q.toList==s.toList)=false:=neqB' d;have e:=hid (z.o.trans (Xl d));clear z d;go_wp2;go_ret2;rw[e.o];exact⟨⟨_,rfl⟩,p.o⟩
   ·have e:=hid (show z7m l s=false from by
     rw[←u.o];unfold z4o;rw[←f,Uj (by omega)])
    clear u f F C;go_wp2;go_ret2;rw[e.o];exact⟨⟨_,rfl⟩,p.o⟩
theorem zgt(l)(s:YY)(A)(c B:Nat)(w:World)(hr:rises ltS l=true)(hl:l.length≤281474976710656)(hB:B≤w.heap.size)(h:Sl w B 1 (.slice A l.length c) l.length (z03 l)):
  Calls prog 269 #[.slice A l.length c,.string s] w fun e w'=>e=.returned (.bool (z7m l s))∧Fr [] w w':=by
 have I:=hid (zy0 l s A c B w hr hl hB h);clear h;go_enter func269,ntmps269;go_wp2_with fail;refine I.o.mono ?_;rintro e b ⟨⟨i,rfl⟩,a⟩;go_wp2;go_ret;exact⟨rfl,a⟩
theorem zll(l)(i:Nat):(z03 l).take (i * 1)=z03 (l.take i):=by simp[z03,Kn]
theorem zlj(l)(i:Nat):(z03 l).drop (i * 1)=z03 (l.drop i):=by simp[z03,Km]
def without{α:Type}(l:List α)(i:Nat):List α:=l.take i++l.drop (i+1)
theorem z9w{α:Type}(l:List α)(i:Nat)(h:i < l.length):(without l i).length=l.length - 1:=by
 unfold without;rw[Xk,Xp,Xr];omega
theorem zo5{α:Type}{l:List α}{i:Nat}{s:α}(h:s∈without l i):s∈l:=by
 unfold without at h;rcases Ys.1 h with h|h
 ·exact Ud h
 ·exact Yp h
def q52(T size m:Nat)(ys:List Value)(base:Nat)(v:Value)(w:World)(e:Ending)(w':World):Prop:=
 ∃v',e=.returned v'∧w'.ownsRow base T size v' m ys∧w.grownBy w' v.ownBlock∧v'.ownBlock=v.ownBlock
theorem zyo(l:YX)(i:Nat)(base:Nat)(v)(w:World)(hl:l.length≤1000000)(hi:i < l.length)(h:w.ownsRow base 9 1 v l.length (z03 l)):
  Calls prog 125 #[v,.int .i64 i,.int .i64 ((i:Int)+1)] w (q52 9 1 (without l i).length (z03 (without l i)) base v w):=by
 have:=zos l.length i (i+1) (z03 l) base v w hl (by omega) (by omega) h (z2z l);rw[zll,zlj,←z36,show i+(l.length - (i+1))=(without l i).length by rw[z9w l i hi];omega] at this;exact this
theorem zzo{x:Itm}(hok:AsOk 2 x)(hk:x.kind≠0):0 < x.list.length:=by
 have b:=hok.some hk;have d:x.kind=2:=by rcases hok.kind with h|h;exact absurd h hk;exact h
 have a:=hok.bare;unfold z0a at b;rw[Xc (by omega),Xc (by rw[a];decide),Xc (by omega)] at b;by_cases hm:many x=0
 ·rw[Xf hm] at b;cases b
 ·unfold z6q at a;rw[d] at a;simp at a;obtain⟨⟨_,e⟩,f⟩:=a;unfold many at hm;rw[e,f] at hm;simp at hm;exact List.length_pos_iff.2 hm
theorem znd(x:Itm)(left:Bool)(h:0 < x.list.length):zxh x left=without x.list (if left then 0 else x.list.length - 1):=by
 unfold zxh without;cases left
 ·simp;omega
 ·simp
theorem zmy(x:Itm)(v)(left:Bool)(w:World)(B:Nat)(hs:x.Small)(hB:B≤w.heap.size)(h:z0p w B v x):
  Calls prog 210 #[v,.bool left] w (q55 (zxi x left) (z1q x) (zg0 x left) w):=by
 have RD:=hid (fun W (hf:Fr [] w W)=>zbc x v W B hs (Xd hB hf.size) (h.fr hf hB (by simp)));obtain⟨A1,c1,A2,c2,A3,c3,rfl,h1,h2,h3⟩:=h;have H1:=hid h1;have O:=hid (BO.new w (.int .i64 x.kind) (.string x.text) (.slice A1 x.list.length c1) (.slice A2 x.pairs.length c2) (.slice A3 x.scores.length c3));obtain⟨j,n,d,l,p⟩:=five O.o.b;have Q:=hid (show z1q x=if z02 2 x≠0 then z02 2 x else if x.kind=0 then 5 else 0 from rfl);have EY:=hid (show zg0 x left=if z1q x=0 then ofL (zxh x left) else z2q 0 from rfl);have EK:=hid (show zxi x left=if z1q x=0 then q6l x left else ⟨#[]⟩ from rfl);have ai:=hs.list;clear h1 h2 h3 hs
 have Y:∀c:Int,c≠0→z1q x=c→zg0 x left=z2q 0∧zxi x left=⟨#[]⟩:=fun c hc he=>by
  have h0:z1q x≠0:=by rw[he];exact hc
  exact⟨by rw[EY.o,Xc h0],by rw[EK.o,Xc h0]⟩
 have NO:=hid Y;clear Y;by_cases ha:z02 2 x=0
 ·have A:=z1m ha;rw[ha] at RD;by_cases hk:x.kind=0
  ·have E:=hid (show z1q x=5 from by rw[Q.o,Xc (by simpa using ha),Xf hk]);obtain⟨e1,e2⟩:=NO.o 5 (by decide) E.o;rw[e1,e2,E.o];have q:(x.kind==0)=true:=by simpa using hk
   clear e1 e2 E Q EY EK ha hk NO A;generalize x.kind=k at *;go_enter func210,ntmps210;go_wp2_with fail;refine(RD.o _ O.o.f).mono ?_;rintro e V ⟨rfl,f1⟩;have m:=hid (O.o.go f1);clear j n d l p;obtain⟨j,n,d,l,p⟩:=five m.o.b;obtain⟨S,P,T,X,R⟩:=five m.o.o;obtain⟨b0,b2,b3,b4,b5⟩:=z11 m.o.o;go_wp2;refine Xg (v:=.tuple #[.agg #[.int .i64 0,.string ⟨#[]⟩,.slice none 0 0,.slice none 0 0,.slice none 0 0],.string ⟨#[]⟩,.int .i64 5]) (by simp[results,results210,go_sem,S,P,T,X,R]) rfl ?_;exact⟨_,rfl,z0k.nothing _ _,m.o.end5 _ _ _ _ _⟩
  ·have E:=hid (show z1q x=0 from by rw[Q.o,Xc (by simpa using ha),Xc hk]);have q:(x.kind==0)=false:=by simpa using hk
   have I:=zzo A hk;have ag:x.list.length≤24:=by have:=A.le24;unfold many at this;omega
   obtain⟨b,off,rfl,hb,ah,ac,C⟩:=H1.o.at_ I;rw[EY.o,EK.o,E.o,Xf rfl,Xf rfl];obtain⟨i,hi⟩:∃i,i=if left then 0 else x.list.length - 1:=⟨_,rfl⟩
   have N:i < x.list.length:=by rw[hi];split <;> omega
   obtain⟨s,hs⟩:∃s,x.list[i]? = some s:=⟨_,Xa N⟩;have a8:q6l x left=s:=by unfold q6l;rw[←hi,Xs,hs];rfl
   have aa:zxh x left=without x.list i:=by rw[znd x left I,hi]
   rw[a8,aa]
   have OF:=hid (fun W base u hu=>z9a (without x.list i) base u W (by rw[z9w _ _ N];omega) (fun s hs=>by
    have:=A.texts s (zo5 hs);omega) hu)
   have DL:=hid (fun W base u hu=>zyo x.list i base u W (by omega) N hu);have CL:=hid (fun W (hW:Fr [] w W)=>z4s x.list.length (z03 x.list) (some ⟨b,off,none⟩) c1 W B (by omega) (Xd hB hW.size) (H1.o.fr hW hB (by simp)) (z2z _));have a7:w.cell? ⟨b,off+i,none⟩=some (.string s):=C i _ (z0x _ i s hs);have t:=hid a7;unfold maxLen at ac;clear A E Q EY EK ha hk NO a8 aa C hs a7;generalize ofL (without x.list i)=y at *;cases left;have F:=hid trivial
   all_goals
    first
    | (guard_hyp F
       have H:(i:Int)=((x.list.length:Int) - 1):=by rw[hi];simp;omega
       have ad:=hi;clear ad;have a6:=hid H;have a5:off+i < off+x.list.length:=by omega)
    | (have H:(i:Int)=0:=by rw[hi];simp
       obtain rfl:i=0:=by omega
       rw[H,Int.zero_add] at DL;have a5:off+0 < off+x.list.length:=by omega)
    clear hi H;go_enter func210,ntmps210;go_wp2_with fail;refine(RD.o _ O.o.f).mono ?_;rintro e V ⟨rfl,f1⟩;have m:=hid (O.o.go f1);have hz1:=m.o.lt;clear j n d l p;obtain⟨j,n,d,l,p⟩:=five m.o.b
    first
    | (guard_hyp F
       have a:V.cell? ⟨b,off+i,none⟩=some (.string s):=m.o.f.cell t.o (by simp))
    | (have a:V.cell? ⟨b,off,none⟩=some (.string s):=m.o.f.cell t.o (by simp))
    have af:¬b=w.heap.size+1:=by omega
    have ae:¬w.heap.size+1=b:=by omega
    go_wp2
    first
    | (guard_hyp F
       rw[←a6.o];clear a6;have a9:IntKind.i64.wrap ((i:Int)+1)=(i:Int)+1:=IntWalk.i64_in _ (by omega);rw[←a9] at DL;clear a9;go_region_held3 (fun Z=>Z.cell? ⟨w.heap.size,2,none⟩=some (.slice (some ⟨b,off,none⟩) x.list.length c1)∧Z.cell? ⟨b,off+i,none⟩=some (.string s)) (go_keep) (first|(go_at_call 119;(refine(CL.o _ m.o.f.drew).mono ?_);rintro e w3 ⟨u,rfl,J,f3⟩;have M:=hid (m.o.go (z01 f3));clear j n d l p a f3;obtain⟨j,n,d,l,p⟩:=five M.o.b;have a:w3.cell? ⟨b,off+i,none⟩=some (.string s):=M.o.f.cell t.o (by simp);have HO:=hid (show w3.ownsRow V.heap.size _ _ _ _ _ from J);obtain⟨U,cu,rfl,-⟩:=z05 J;clear J)|(go_at_call 125;(refine(DL.o _ _ _ HO.o).mono ?_);rintro e w4 ⟨u4,rfl,z,D,-⟩;have K:=hid (M.o.step (z1u D) (fun g hg=>by have:=z19 HO.o hg;omega));clear j n d l p a D;obtain⟨j,n,d,l,p⟩:=five K.o.b;have a:w4.cell? ⟨b,off+i,none⟩=some (.string s):=K.o.f.cell t.o (by simp);have L:=hid z;obtain⟨U4,ab,rfl,-⟩:=z05 z;clear z)|(go_at_call 262;(refine(OF.o _ _ _ L.o).mono ?_);rintro e w5 ⟨u5,rfl,hi,f5⟩;have G:=hid (K.o.go f5);clear j n d l p a f5;obtain⟨j,n,d,l,p⟩:=five G.o.b;have a:w5.cell? ⟨b,off+i,none⟩=some (.string s):=G.o.f.cell t.o (by simp);have HI:=hid hi;obtain⟨P1,p1,P2,p2,P3,p3,rfl⟩:=hi.form;clear hi;obtain⟨S,P,T,X,R⟩:=five G.o.o;obtain⟨b0,b2,b3,b4,b5⟩:=z11 G.o.o)))
    | (go_region_held3 (fun Z=>Z.cell? ⟨w.heap.size,2,none⟩=some (.slice (some ⟨b,off,none⟩) x.list.length c1)∧Z.cell? ⟨b,off,none⟩=some (.string s)) (go_keep) (first|(go_at_call 119;(refine(CL.o _ m.o.f.drew).mono ?_);rintro e w3 ⟨u,rfl,J,f3⟩;have M:=hid (m.o.go (z01 f3));clear j n d l p a f3;obtain⟨j,n,d,l,p⟩:=five M.o.b;have a:w3.cell? ⟨b,off,none⟩=some (.string s):=M.o.f.cell t.o (by simp);have HO:=hid (show w3.ownsRow V.heap.size _ _ _ _ _ from J);obtain⟨U,cu,rfl,-⟩:=z05 J;clear J)|(go_at_call 125;(refine(DL.o _ _ _ HO.o).mono ?_);rintro e w4 ⟨u4,rfl,z,D,-⟩;have K:=hid (M.o.step (z1u D) (fun g hg=>by have:=z19 HO.o hg;omega));clear j n d l p a D;obtain⟨j,n,d,l,p⟩:=five K.o.b;have a:w4.cell? ⟨b,off,none⟩=some (.string s):=K.o.f.cell t.o (by simp);have L:=hid z;obtain⟨U4,ab,rfl,-⟩:=z05 z;clear z)|(go_at_call 262;(refine(OF.o _ _ _ L.o).mono ?_);rintro e w5 ⟨u5,rfl,hi,f5⟩;have G:=hid (K.o.go f5);clear j n d l p a f5;obtain⟨j,n,d,l,p⟩:=five G.o.b;have a:w5.cell? ⟨b,off,none⟩=some (.string s):=G.o.f.cell t.o (by simp);have HI:=hid hi;obtain⟨P1,p1,P2,p2,P3,p3,rfl⟩:=hi.form;clear hi;obtain⟨S,P,T,X,R⟩:=five G.o.o;obtain⟨b0,b2,b3,b4,b5⟩:=z11 G.o.o)))
    go_wp2;refine Xg (v:=.tuple #[.agg #[.int .i64 y.kind,.string y.text,.slice P1 y.list.length p1,.slice P2 y.pairs.length p2,.slice P3 y.scores.length p3],.string s,.int .i64 0]) (by simp[results,results210,go_sem,S,P,T,X,R]) rfl ?_;exact⟨_,rfl,(z1v HI.o (by omega) _ _ _ _ _).less (by omega),G.o.end5 _ _ _ _ _⟩
 ·have E:=hid (show z1q x=z02 2 x from by rw[Q.o,Xf ha]);obtain⟨e1,e2⟩:=NO.o _ ha E.o;rw[e1,e2,E.o];have q:(z02 2 x==0)=false:=by simpa using ha
  have q2:(z02 2 x != 0)=true:=by simpa using ha
  clear e1 e2 E Q EY EK ha NO;generalize z02 2 x=r at *;go_enter func210,ntmps210;go_wp2_with fail;refine(RD.o _ O.o.f).mono ?_;rintro e V ⟨rfl,f1⟩;have m:=hid (O.o.go f1);clear j n d l p;obtain⟨S,P,T,X,R⟩:=five m.o.o;obtain⟨b0,b2,b3,b4,b5⟩:=z11 m.o.o;go_wp2;refine Xg (v:=.tuple #[.agg #[.int .i64 0,.string ⟨#[]⟩,.slice none 0 0,.slice none 0 0,.slice none 0 0],.string ⟨#[]⟩,.int .i64 r]) (by simp[results,results210,go_sem,S,P,T,X,R]) rfl ?_;exact⟨_,rfl,z0k.nothing _ _,m.o.end5 _ _ _ _ _⟩
end
end Go.Proofs.YtnmoajaelmimnaaGreatDoor
