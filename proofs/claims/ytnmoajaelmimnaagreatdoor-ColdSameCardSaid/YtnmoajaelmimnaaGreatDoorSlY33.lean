/- Contracts; no condition but each theorem's own. -/
import Derived.Test.YtnmoajaelmimnaaGreatDoorSlY30
import Derived.Test.YtnmoajaelmimnaaGreatDoorSlY32
set_option linter.unusedVariables false
set_option linter.unusedSimpArgs false
set_option maxHeartbeats 8000000
set_option maxRecDepth 100000
namespace Go.Proofs.YtnmoajaelmimnaaGreatDoor
open Go.Proofs.Tryz
section
open Go.RowKit
theorem q5r{s:List Ent}(h:z22 s)(k):z22 (z5q s k):=zaa h _
theorem ztq(now:Int)(l:YX)(k:Nat)(t)(ht:l[k]? = some t)(s)(n:Nat)(ok:z22 s):zje now (l.drop k) s n=zje now (l.drop (k+1)) (z5q s t) (n+if z26 s now t=true then 1 else 0):=by
 have a:=(Xe.1 ht).1;have:l.drop k=t :: l.drop (k+1):=by rw[Yu a,(Xe.1 ht).2]
 rw[this];show zje now (l.drop (k+1)) (zb7 s now t (z2q 0) 0) (n+if zbl s now t=true then 1 else 0)=_;rw[(zb8 s now t 0).1,z3a ok now t];rfl
def q20(g B0:Nat)(sv:Value)(now:Int)(lv:Value)(l:YX)(s:List Ent)(w:World)(e:Ending)(w':World):Prop:=
 e=.returned (.agg #[.int .i64 3,.string ⟨#[]⟩,.int .i64 ((zje now l s 0).2:Nat),.slice none 0 0])∧Fr (g :: z1w sv) w w'∧∃sv',Dr g B0 sv' now lv l (zje now l s 0).1 w'
theorem zqg(g B0 q:Nat)(sv)(now:Int)(lv)(l:YX)(s)(w)(ok:z22 s)(h12:l.length≤11)(h:Dr g B0 sv now lv l s w)(hq:Whole w q 139 [.pointer (some ⟨g,0,none⟩)])(hqs:q∉g :: z1w sv):
  Calls prog 202 #[.pointer (some ⟨g,0,none⟩),.func (Fn.func 203) #[] #[.pointer (some ⟨q,0,none⟩)]] w (q20 g B0 sv now lv l s w):=by
 have a1:=h.bz;have z:∀j∈g :: z1w sv,j < w.heap.size:=fun j E=>(h.low j E).2;obtain⟨LA,lc,rfl⟩:=h.lform;have X:=zF w;obtain⟨x0,x1,x2⟩:=(h.go X.o).three;have Q0:=zQ w;have V:=hid (hq.alloc (.cells yRza 27));have H0:=hid (h.go X.o);have d:=hid z;have O:=hid hqs;have a2:=hq.lt;have ST:=hid (fun k t (ht:l[k]? = some t) s n (ok:z22 s)=>ztq now l k t ht s n ok);have OK:=hid ok;obtain⟨U,B⟩:∃U,U=zje now l s 0:=⟨_,rfl⟩;unfold q20;rw[←B];have Y:=hid B;clear h hq hqs ok z B;go_enter func202,ntmps202;go_wp2;go_loopg [5,13] l.length (fun y n i wr=>∃(k u:Nat) (C:Value) (f:List Ent),y=l.length - k∧k≤l.length∧n=.int .i64 u∧i=.int .i64 k∧u≤k∧zje now (l.drop k) f u=U∧z22 f∧Dr g B0 C now (.slice LA l.length lc) l f wr∧Whole wr w.heap.size 27 [.int .i64 0,.string ⟨#[]⟩,.int .i64 0,.slice none 0 0]∧Whole wr q 139 [.pointer (some ⟨g,0,none⟩)]∧Fr (g :: z1w sv) w wr∧∀j∈z1w C,j∈z1w sv∨w.heap.size+1≤j)
 case atStart=>exact⟨0,0,sv,s,rfl,Xt _,rfl,rfl,Xb _,by rw[List.drop_zero];exact Y.o.symm,OK.o,H0.o,Q0.o,V.o,X.o.up,fun j E=>.inl E⟩
 case round=>
  obtain⟨k,u,C,f,rfl,hk,rfl,rfl,a3,N,P,hd,hq,W,hf,A⟩:=hrel;have HD:=hid hd;have Q:=hid hq;have BQ:=hid W;have F:=hid hf;have r:=hid A;have m:=hid P;have G:=hid N;clear hq hf x0 x1 x2 hd W A P N;by_cases hlt:k < l.length
  ·obtain⟨b,off,rfl,W,hc,a,L⟩:=HD.o.word (by omega);have xw:=L k hlt;have EK:l[k]? = some (wd l k):=by unfold wd;rw[Xs,Xa hlt];rfl
   have K:=hid (ST.o k _ EK f u m.o);have DK:=hid (zth g B0 q C now (.slice (some ⟨b,off,none⟩) l.length lc) l f (wd l k) _ m.o.rise (by have:=m.o.le;omega) HD.o BQ.o);have M:=hid (q5r m.o (wd l k))
   have QN:w.heap.size∉g :: z1w C:=fun a=>by
    rcases Yh.1 a with e|a
    ·have:=d.o g (.head _);omega
    ·rcases r.o _ a with h1|h1
     ·have:=d.o _ (.tail _ h1);omega
     ·omega
   have BN:q∉g :: z1w C:=fun a=>by
    rcases Yh.1 a with e|a
    ·exact O.o (e ▸ .head _)
    ·rcases r.o _ a with h1|h1
     ·exact O.o (.tail _ h1)
     ·omega
   have QN:=hid QN;have BN:=hid BN;unfold maxLen at a;clear L EK;generalize wd l k=t at *;generalize hlb:z26 f now t=bb at *;generalize z5q f t=s2 at *;clear hlb;go_wp2_with fail;refine DK.o.mono ?_;rintro e1 w1 ⟨rfl,p,D,I,S⟩;have J:=hid I;have Z:=hid S
   have T:=hid (F.o.step p (fun j E=>by
    rcases Yh.1 E with e|a
    ·exact .inl (e ▸ .head _)
    ·rcases r.o _ a with h1|h1
     ·exact .inl (.tail _ h1)
     ·exact .inr (by omega)))
   have H:=hid (Q.o.fr p QN.o);have R:=hid (BQ.o.fr p BN.o);have a4:=Q.o.lt
   have x:=hid (show ∀j∈z1w D,j∈z1w sv∨w.heap.size+1≤j from fun j E=>by
    rcases Z.o j E with h1|h1
    ·exact r.o j h1
    ·exact .inr (by omega))
   clear p xw I S;rcases bb with _|_
   all_goals
    go_wp2;go_roundg (l.length - (k+1))
    case measure=>omega
    case rel=>first
     | exact⟨k+1,u,D,s2,rfl,by omega,rfl,by go_num,by omega,by rw[←G.o,K.o];rfl,M.o,J.o,H.o,R.o,T.o,x.o⟩
     | exact⟨k+1,u+1,D,s2,rfl,by omega,by go_num,by go_num,by omega,by rw[←G.o,K.o];rfl,M.o,J.o,H.o,R.o,T.o,x.o⟩
  ·obtain rfl:k=l.length:=by omega
   have ED:U=(f,u):=by
    rw[←G.o,Jc];rfl
   go_wp2_with fail;refine(z1c _ _).mono ?_;rintro e1 w1 ⟨rfl,p⟩;have T:=hid (F.o.trans p.up);have H:=hid (Q.o.f0 p);have a0:=hid (HD.o.go p);clear p;obtain⟨y0,y1,y2,y3⟩:=four H.o;obtain⟨z0,z1,z2,z3⟩:=z1p H.o;go_wp2;refine Xg (v:=.agg #[.int .i64 3,.string ⟨#[]⟩,.int .i64 u,.slice none 0 0]) (by simp[results,results202,go_sem,y0,y1,y2,y3]) rfl ?_;rw[ED];exact⟨rfl,z2d T.o (Xb _) _ _ _ _,C,a0.o.set4W H.o (by have:=d.o g (.head _);omega) _ _ _ _⟩
theorem q5u(g B0:Nat)(sv)(now:Int)(lv)(l:YX)(s)(c0:YY)(w)(ok:z22 s)(hn:1≤l.length)(h12:l.length≤11)(hz:∀t∈l,t.size≤60)(h:Dr g B0 sv now lv l s w):
  Calls prog 154 #[.pointer (some ⟨g,0,none⟩),.string ⟨#[100,101,108]⟩] w (ChD g B0 B0 sv now lv l (doC .del s now (c0 :: l)) w):=by
 have hr:=ok.rise;have a0:=ok.le;have EP:doC .del s now (c0 :: l)=((zje now l s 0).1,z0s ((zje now l s 0).2:Nat)):=rfl;have DT:=hid (fun W (hd:Dr g B0 sv now lv l s W) (hq:Whole W w.heap.size 139 [.pointer (some ⟨g,0,none⟩)])=>zqg g B0 w.heap.size sv now lv l s W ok h12 hd hq (fun O=>by have:=(h.low _ O).2;omega));rw[EP];clear EP;unfold q20 at DT;generalize zje now l s 0=dd at *;have LK:=hid (fun W (hW:Fr [] w W)=>z3n s sv now (wd l 0) W B0 hr (by omega) (h.e.fr hW));have H:=hid h;have a2:=h.lt;have M:=h.bz;obtain⟨SA,sc,rfl⟩:=h.sform;obtain⟨LA,lc,rfl⟩:=h.lform;obtain⟨b,off,rfl,hb,a,O,D⟩:=h.word (by omega);have j:=hid D;have I:=hid (fun W (hW:Fr [] w W)=>(h.go hW).three);unfold maxLen at O;clear h hr D ok;generalize z00 s now (wd l 0)=y at *;generalize z26 s now (wd l 0)=bb at *;have a4:(0:Int) < (l.length:Int):=by omega
 have p:=zF2 w g;have A:=zP0 w g;have Q0:=zQ0 w g;have F:=zF3 p;have V1:=zV1 w g;have K:¬g=w.heap.size+1+1:=by omega
 have U:¬w.heap.size+1+1=g:=by omega
 have N:¬b=w.heap.size+1+1:=by omega
 have S:¬w.heap.size+1+1=b:=by omega
 have P:¬w.heap.size=w.heap.size+1+1:=by omega
 have Q:¬w.heap.size+1+1=w.heap.size:=by omega
 have a1:0 < l.length:=by omega
 have V:=A.o.cell 0;have p1:=(zP1 A).cell 0;obtain⟨d0,d1,d2⟩:=I.o _ p.o;obtain⟨d3,d4,d5⟩:=I.o _ F.o;have Z:=p.o.cell (j.o 0 (by omega)) (by simp);have Y:=F.o.cell (j.o 0 (by omega)) (by simp);rw[Ye] at Z Y;go_enter func154,ntmps154;go_upto_region 1 with fail;go_cut [5,6] (fun pb po m=>po=.bool bb∧zh1 B0 y ((w.alloc (.cells #[.pointer (some ⟨g,0,none⟩)] 139)).alloc (.cells yRza 27)) pb m)
 case first=>
  go_region_held3 (fun m=>m.cell? ⟨w.heap.size,0,none⟩=some (.pointer (some ⟨g,0,none⟩))∧m.cell? ⟨g,0,none⟩=some (.slice SA s.length sc)∧m.cell? ⟨g,1,none⟩=some (.int .i64 now)∧m.cell? ⟨g,2,none⟩=some (.slice (some ⟨b,off,none⟩) l.length lc)∧m.cell? ⟨b,off,none⟩=some (.string (wd l 0))) (go_keep) ((go_at_call 201;first|(refine(LK.o _ p.o.drew).mono ?_;rintro e1 w1 ⟨X,c1,A2,c2,A3,c3,rfl,a,k⟩;have z:=hid (z01 k);have B:=hid (p.o.trans z.o);have J:=hid a;obtain⟨z0,z1,z2⟩:=I.o _ B.o;have G:=B.o.cell (j.o 0 (by omega)) (by simp);rw[Ye] at G;have z4:=(A.o.f0 z.o).cell 0;clear k a)|(refine(LK.o _ F.o.drew).mono ?_;rintro e1 w1 ⟨X,c1,A2,c2,A3,c3,rfl,a,k⟩;have z:=hid (z3v (z01 k));have B:=hid (F.o.trans (z01 k));have J:=hid a;have R:=hid (V1.o.f0 (z01 k));obtain⟨z0,z1,z2⟩:=I.o _ B.o;have G:=B.o.cell (j.o 0 (by omega)) (by simp);rw[Ye] at G;have z4:=((A.o.alloc (.cells yEza 70)).f0 (z01 k)).cell 0;have y7:=seven R.o;have z7:=zbi R.o;clear k a)))
  all_goals
   go_wp2;go_meet
   case rel=>first|with_reducible exact⟨rfl,zh1.new J.o z.o⟩|exact⟨rfl,zh1.put J.o z.o (by simp) R.o⟩
 clear d0 d1 d2 d3 d4 d5 Z Y V p1;obtain⟨rfl,gb,X,c1,A2,c2,A3,c3,rfl,E,hw,a,hf⟩:=hcut;have J:=hid a;have C:w.heap.size+1 < gb:=by simp at E;omega
 have u:=zKW H A Q0 p hf hw C;clear hf hw a E K U N S P Q;have V:=(u.o.bl _ (.head _)).cell 0;go_wp2_with fail;refine(DT.o _ u.o.d (u.o.bl _ (.head _))).mono ?_;rintro e8 w8 ⟨rfl,T,a3,x⟩;have n:=hid (u.o.keep H.o T);have F8:=hid (u.o.f.up.trans T);have L:=hid x;clear T x V;obtain⟨ds,dn⟩:=dd;obtain⟨y0,y1,y2,y3⟩:=four (n.o _ (.tail _ (.head _)));obtain⟨z0,z1,z2,G⟩:=z1p (n.o _ (.tail _ (.head _)));go_wp2;refine Xg (v:=.agg #[.int .i64 3,.string ⟨#[]⟩,.int .i64 (dn:Int),.slice none 0 0]) (by simp[results,results154,go_sem,y0,y1,y2,y3]) rfl ?_;exact ChD.fin4o (r:=z0s (dn:Int)) (Uh _) (z1i.bare _ _ _ _ _) F8.o (n.o _ (.tail _ (.head _))) M (fun _=>⟨_,L.o⟩)
theorem z2i{s:Shp}:∀(l) (i:Nat),z77 s i l=true→∀k,k < l.length→s.num (i+k)=true→(z5l (wd l k).data.toList).isSome=true
 | [],i,_,k,hk,_=>by simp at hk
 | w :: l,i,h,k,hk,hn=>by
  unfold z77 at h;rw[Yf] at h;cases k with
  | zero=>
   rw[Ye] at hn;have:=h.1;rw[hn] at this;simpa[isN,wd] using this
  | succ k=>
   have:=z2i l (i+1) h.2 k (by simpa using hk) (by rwa[show i+1+k=i+(k+1) from by omega]);simpa[wd] using this
theorem z0g{s:Shp}{n:Nat}(h:s.bad n=false):s.least≤n:=by
 unfold Shp.bad at h;rw[Vc,Vc] at h;have:=of_decide_eq_false h.1.1;omega
theorem zj3{s:Shp}{n:Nat}(h:s.bad n=false)(hp:s.pairs=true):n % 2=1:=by
 unfold Shp.bad at h;rw[Vc,hp,Vk] at h;have:=of_decide_eq_false h.2;omega
structure zsj(c:Cm)(l:YX):Prop where
 le:l.length≤11
 sz:∀t∈l,t.size≤60
 ok:c.shp.bad l.length=false
 nums:z77 c.shp 0 l=true
theorem zed{l:YX}(h:z1x l=0):∃c0 l' c,l=c0 :: l'∧q3m c0=c.bs∧cmL l=some c∧zsj c l':=by
 unfold z1x at h;split at h
 ·exact absurd h (by assumption)
 ·rename_i hw;obtain⟨a,b,h3⟩:=z6o (by simpa using hw);rcases l with _|⟨c0,l'⟩
  ·simp at a
  ·split at h
   ·cases h
   ·rename_i c hc;split at h
    ·cases h
    ·rename_i hb;split at h
     ·rename_i hn;refine⟨c0,l',c,rfl,zj4 hc,hc,⟨by simp at b;omega,fun t d=>h3 t (.tail _ d),?_,hn⟩⟩;have:(c0 :: l').length - 1=l'.length:=by simp
      rw[this] at hb;simpa using hb
     ·cases h
theorem q1j(g B0:Nat)(sv)(now:Int)(lv)(l)(s)(c0:YY)(c:Cm)(w)(hk:zsj c l)(ok:z22 s)(h0:0≤now∧now≤1000000)(hv:Vars w)(h:Dr g B0 sv now lv l s w):
  Calls prog 99 #[.pointer (some ⟨g,0,none⟩),.string (toB c.bs)] w (ChD g B0 B0 sv now lv l (doC c s now (c0 :: l)) w):=by
 have e:=hk.ok;have m:=hk.nums;cases c
 case ping=>exact q2t g B0 sv now lv l s c0 w h
 case get=>
  have b:1≤l.length:=z0g e;exact z5t g B0 sv now lv l s _ ⟨#[103,101,116]⟩ (.inl rfl) w (z0j _ _ _ _) h (fun W d a=>q5v g B0 sv now lv l s c0 W ok b hk.le hk.sz a)
 case set_=>
  have b:2≤l.length:=z0g e;exact z5t g B0 sv now lv l s _ ⟨#[115,101,116]⟩ (.inr (.inl rfl)) w (z0j _ _ _ _) h (fun W d a=>q2v g B0 sv now lv l s c0 W ok b hk.le hk.sz a)
 case append_=>
  have b:2≤l.length:=z0g e;exact z5t g B0 sv now lv l s _ ⟨#[97,112,112,101,110,100]⟩ (.inr (.inr (.inl rfl))) w (z0j _ _ _ _) h (fun W d a=>zqi g B0 sv now lv l s c0 W ok b hk.le hk.sz a)
 case strlen=>
  have b:1≤l.length:=z0g e;exact z5t g B0 sv now lv l s _ ⟨#[115,116,114,108,101,110]⟩ (.inr (.inr (.inr (.inl rfl)))) w (z0j _ _ _ _) h (fun W d a=>zu1 g B0 sv now lv l s c0 W ok b hk.le hk.sz a)
 case incrby=>
  have b:2≤l.length:=z0g e;obtain⟨f,j⟩:=Yo.1 (z2i l 0 m 1 (by omega) rfl);exact z5t g B0 sv now lv l s _ ⟨#[105,110,99,114,98,121]⟩ (.inr (.inr (.inr (.inr (.inl rfl))))) w (z0j _ _ _ _) h (fun W d a=>ztx g B0 sv now lv l s c0 W ok b hk.le hk.sz f j (hv.fr d) a)
 case getrange=>
  have b:3≤l.length:=z0g e;obtain⟨f,j⟩:=Yo.1 (z2i l 0 m 1 (by omega) rfl);obtain⟨p,n⟩:=Yo.1 (z2i l 0 m 2 (by omega) rfl);exact z5t g B0 sv now lv l s _ ⟨#[103,101,116,114,97,110,103,101]⟩ (.inr (.inr (.inr (.inr (.inr (rfl)))))) w (z0j _ _ _ _) h (fun W d a=>zmb g B0 sv now lv l s c0 W ok b hk.le hk.sz f j p n (hv.fr d) a)
 case del=>
  have b:1≤l.length:=z0g e;exact z65 g B0 sv now lv l s _ ⟨#[100,101,108]⟩ (.inl rfl) w (z0j _ _ _ _) h (fun W d a=>q5u g B0 sv now lv l s c0 W ok b hk.le hk.sz a)
 case exists_=>
  have b:1≤l.length:=z0g e;exact z65 g B0 sv now lv l s _ ⟨#[101,120,105,115,116,115]⟩ (.inr (.inl rfl)) w (z0j _ _ _ _) h (fun W d a=>zqj g B0 sv now lv l s c0 W ok b hk.le hk.sz a)
 case type_=>
  have b:1≤l.length:=z0g e;exact z65 g B0 sv now lv l s _ ⟨#[116,121,112,101]⟩ (.inr (.inr (.inl rfl))) w (z0j _ _ _ _) h (fun W d a=>zys g B0 sv now lv l s c0 W ok b hk.le hk.sz a)
 case keys_=>
  have b:1≤l.length:=z0g e;exact z65 g B0 sv now lv l s _ ⟨#[107,101,121,115]⟩ (.inr (.inr (.inr (.inl rfl)))) w (z0j _ _ _ _) h (fun W d a=>zyp g B0 sv now lv l s c0 W ok b hk.le hk.sz h0 a)
 case expire=>
  have b:2≤l.length:=z0g e;obtain⟨f,j⟩:=Yo.1 (z2i l 0 m 1 (by omega) rfl);exact z65 g B0 sv now lv l s _ ⟨#[101,120,112,105,114,101]⟩ (.inr (.inr (.inr (.inr (.inl rfl))))) w (z0j _ _ _ _) h (fun W d a=>ztw g B0 sv now lv l s c0 W ok b hk.le hk.sz f j (hv.fr d) h0 a)
 case ttl=>
  have b:1≤l.length:=z0g e;exact z65 g B0 sv now lv l s _ ⟨#[116,116,108]⟩ (.inr (.inr (.inr (.inr (.inr (.inl rfl)))))) w (z0j _ _ _ _) h (fun W d a=>q5w g B0 sv now lv l s c0 W ok b hk.le hk.sz h0 a)
 case persist=>
  have b:1≤l.length:=z0g e;exact z65 g B0 sv now lv l s _ ⟨#[112,101,114,115,105,115,116]⟩ (.inr (.inr (.inr (.inr (.inr (.inr (rfl))))))) w (z0j _ _ _ _) h (fun W d a=>zqn g B0 sv now lv l s c0 W ok b hk.le hk.sz a)
 case lpush=>
  have b:2≤l.length:=z0g e;exact z45 g B0 sv now lv l s _ ⟨#[108,112,117,115,104]⟩ (.inl rfl) w (z0j _ _ _ _) h (fun W d a=>zhd true _ (.inl ⟨rfl,rfl⟩) g B0 sv now lv l s c0 W ok b hk.le hk.sz a)
 case rpush=>
  have b:2≤l.length:=z0g e;exact z45 g B0 sv now lv l s _ ⟨#[114,112,117,115,104]⟩ (.inr (.inl rfl)) w (z0j _ _ _ _) h (fun W d a=>zhd false _ (.inr ⟨rfl,rfl⟩) g B0 sv now lv l s c0 W ok b hk.le hk.sz a)
 case lpop=>
  have b:1≤l.length:=z0g e;exact z45 g B0 sv now lv l s _ ⟨#[108,112,111,112]⟩ (.inr (.inr (.inl rfl))) w (z0j _ _ _ _) h (fun W d a=>ztz true _ (.inl ⟨rfl,rfl⟩) g B0 sv now lv l s c0 W ok b hk.le hk.sz a)
 case rpop=>
  have b:1≤l.length:=z0g e;exact z45 g B0 sv now lv l s _ ⟨#[114,112,111,112]⟩ (.inr (.inr (.inr (.inl rfl)))) w (z0j _ _ _ _) h (fun W d a=>ztz false _ (.inr ⟨rfl,rfl⟩) g B0 sv now lv l s c0 W ok b hk.le hk.sz a)
 case lrange=>
  have b:3≤l.length:=z0g e;obtain⟨f,j⟩:=Yo.1 (z2i l 0 m 1 (by omega) rfl);obtain⟨p,n⟩:=Yo.1 (z2i l 0 m 2 (by omega) rfl);exact z45 g B0 sv now lv l s _ ⟨#[108,114,97,110,103,101]⟩ (.inr (.inr (.inr (.inr (.inl rfl))))) w (z0j _ _ _ _) h (fun W d a=>zty g B0 sv now lv l s c0 W ok b hk.le hk.sz f j p n (hv.fr d) a)
 case ltrim=>
  have b:3≤l.length:=z0g e;obtain⟨f,j⟩:=Yo.1 (z2i l 0 m 1 (by omega) rfl);obtain⟨p,n⟩:=Yo.1 (z2i l 0 m 2 (by omega) rfl);exact z45 g B0 sv now lv l s _ ⟨#[108,116,114,105,109]⟩ (.inr (.inr (.inr (.inr (.inr (.inl rfl)))))) w (z0j _ _ _ _) h (fun W d a=>zyq g B0 sv now lv l s c0 W ok b hk.le hk.sz f j p n (hv.fr d) a)
 case lrem=>
  have b:2≤l.length:=z0g e;exact z45 g B0 sv now lv l s _ ⟨#[108,114,101,109]⟩ (.inr (.inr (.inr (.inr (.inr (.inr (rfl))))))) w (z0j _ _ _ _) h (fun W d a=>q2s g B0 sv now lv l s c0 W ok b hk.le hk.sz a)
 case sadd=>
  have b:2≤l.length:=z0g e;exact z66 g B0 sv now lv l s _ ⟨#[115,97,100,100]⟩ (.inl rfl) w (z0j _ _ _ _) h (fun W d a=>q2u g B0 sv now lv l s c0 W ok b hk.le hk.sz a)
 case srem=>
  have b:2≤l.length:=z0g e;exact z66 g B0 sv now lv l s _ ⟨#[115,114,101,109]⟩ (.inr (.inl rfl)) w (z0j _ _ _ _) h (fun W d a=>q2w g B0 sv now lv l s c0 W ok b hk.le hk.sz a)
 case sismember=>
  have b:2≤l.length:=z0g e;exact z66 g B0 sv now lv l s _ ⟨#[115,105,115,109,101,109,98,101,114]⟩ (.inr (.inr (.inl rfl))) w (z0j _ _ _ _) h (fun W d a=>zji g B0 sv now lv l s c0 W ok b hk.le hk.sz a)
 case smembers=>
  have b:1≤l.length:=z0g e;exact z66 g B0 sv now lv l s _ ⟨#[115,109,101,109,98,101,114,115]⟩ (.inr (.inr (.inr (.inl rfl)))) w (z0j _ _ _ _) h (fun W d a=>zmf g B0 sv now lv l s c0 W ok b hk.le hk.sz a)
 case sinter=>
  have b:1≤l.length:=z0g e;exact z66 g B0 sv now lv l s _ ⟨#[115,105,110,116,101,114]⟩ (.inr (.inr (.inr (.inr (.inl rfl))))) w (z0j _ _ _ _) h (fun W d a=>zu0 g B0 sv now lv l s c0 W ok b hk.le hk.sz a)
 case sunion=>
  have b:1≤l.length:=z0g e;exact z66 g B0 sv now lv l s _ ⟨#[115,117,110,105,111,110]⟩ (.inr (.inr (.inr (.inr (.inr (.inl rfl)))))) w (z0j _ _ _ _) h (fun W d a=>zu2 g B0 sv now lv l s c0 W ok b hk.le hk.sz a)
 case sdiff=>
  have b:1≤l.length:=z0g e;exact z66 g B0 sv now lv l s _ ⟨#[115,100,105,102,102]⟩ (.inr (.inr (.inr (.inr (.inr (.inr (rfl))))))) w (z0j _ _ _ _) h (fun W d a=>zyr g B0 sv now lv l s c0 W ok b hk.le hk.sz a)
 case hset=>
  have b:3≤l.length:=z0g e;have r:l.length=2 * (l.length / 2)+1:=by have:=zj3 e rfl;omega
  exact z86 g B0 sv now lv l s _ ⟨#[104,115,101,116]⟩ (.inl rfl) w (z0j _ _ _ _) h (fun W d a=>q2r g B0 sv now lv l s c0 W ok b hk.le hk.sz (l.length / 2) r a)
 case hget=>
  have b:2≤l.length:=z0g e;exact z86 g B0 sv now lv l s _ ⟨#[104,103,101,116]⟩ (.inr (.inl rfl)) w (z0j _ _ _ _) h (fun W d a=>q2q g B0 sv now lv l s c0 W ok b hk.le hk.sz a)
 case hdel=>
  have b:2≤l.length:=z0g e;exact z86 g B0 sv now lv l s _ ⟨#[104,100,101,108]⟩ (.inr (.inr (.inl rfl))) w (z0j _ _ _ _) h (fun W d a=>q2p g B0 sv now lv l s c0 W ok b hk.le hk.sz a)
 case hgetall=>
  have b:1≤l.length:=z0g e;exact z86 g B0 sv now lv l s _ ⟨#[104,103,101,116,97,108,108]⟩ (.inr (.inr (.inr (rfl)))) w (z0j _ _ _ _) h (fun W d a=>zqm g B0 sv now lv l s c0 W ok b hk.le hk.sz a)
 case zadd=>
  have b:3≤l.length:=z0g e;have r:l.length=2 * (l.length / 2)+1:=by have:=zj3 e rfl;omega
  have t:∀k,2 * k+2 < l.length→(z5l (wd l (2 * k+1)).data.toList).isSome=true:=fun k u=>z2i l 0 m (2 * k+1) (by omega) (by show decide ((0+(2 * k+1)) % 2=1)=true;rw[Xi (by omega)]);exact z4y g B0 sv now lv l s _ ⟨#[122,97,100,100]⟩ (.inl rfl) w (z0j _ _ _ _) h (fun W d a=>q30 g B0 sv now lv l s c0 W ok b hk.le hk.sz (l.length / 2) r t (hv.fr d) a)
 case zrem=>
  have b:2≤l.length:=z0g e;exact z4y g B0 sv now lv l s _ ⟨#[122,114,101,109]⟩ (.inr (.inl rfl)) w (z0j _ _ _ _) h (fun W d a=>q31 g B0 sv now lv l s c0 W ok b hk.le hk.sz a)
 case zscore=>
  have b:2≤l.length:=z0g e;exact z4y g B0 sv now lv l s _ ⟨#[122,115,99,111,114,101]⟩ (.inr (.inr (.inl rfl))) w (z0j _ _ _ _) h (fun W d a=>zu4 g B0 sv now lv l s c0 W ok b hk.le hk.sz a)
 case zrank=>
  have b:2≤l.length:=z0g e;exact z4y g B0 sv now lv l s _ ⟨#[122,114,97,110,107]⟩ (.inr (.inr (.inr (.inl rfl)))) w (z0j _ _ _ _) h (fun W d a=>zyt g B0 sv now lv l s c0 W ok b hk.le hk.sz a)
 case zrange=>
  have b:3≤l.length:=z0g e;obtain⟨f,j⟩:=Yo.1 (z2i l 0 m 1 (by omega) rfl);obtain⟨p,n⟩:=Yo.1 (z2i l 0 m 2 (by omega) rfl);exact z4y g B0 sv now lv l s _ ⟨#[122,114,97,110,103,101]⟩ (.inr (.inr (.inr (.inr (.inl rfl))))) w (z0j _ _ _ _) h (fun W d a=>zu3 g B0 sv now lv l s c0 W ok b hk.le hk.sz f j p n (hv.fr d) a)
 case zrangebyscore=>
  have b:3≤l.length:=z0g e;obtain⟨f,j⟩:=Yo.1 (z2i l 0 m 1 (by omega) rfl);obtain⟨p,n⟩:=Yo.1 (z2i l 0 m 2 (by omega) rfl);exact z4y g B0 sv now lv l s _ ⟨#[122,114,97,110,103,101,98,121,115,99,111,114,101]⟩ (.inr (.inr (.inr (.inr (.inr (rfl)))))) w (z0j _ _ _ _) h (fun W d a=>zcz g B0 sv now lv l s c0 W ok b hk.le hk.sz f j p n (hv.fr d) a)
theorem zn4{s:Shp}{k:Nat}{l:YX}{t:YY}(h:l[k]? = some t):z77 s k (l.drop k)=((!s.num k||isN t)&&z77 s (k+1) (l.drop (k+1))):=by
 have a:=(Xe.1 h).1;rw[Yu a,(Xe.1 h).2];rfl
theorem zmx{l:YX}(h:z10 l≠0):z1x l=z10 l:=Xf h
theorem zr7{l:YX}(h:z10 l=0)(hc:cmL l=none):z1x l=5:=by
 unfold z1x;rw[Xc (by simpa using h),hc]
theorem zr8{l:YX}{c:Cm}(h:z10 l=0)(hc:cmL l=some c):z1x l=if c.shp.bad (l.length - 1)=true then 1 else if z77 c.shp 0 (l.drop 1)=true then 0 else 3:=by
 unfold z1x;rw[Xc (by simpa using h),hc]
def KnP(l:YX)(w:World)(e:Ending)(w':World):Prop:=e=.returned (.int .i64 (z1x l))∧Fr [] w w'
theorem zr4(l)(A)(c B:Nat)(w:World)(hw:z10 l≠0)(hl:l.length≤281474976710656)(hB:B≤w.heap.size)(h:Sl w B 1 (.slice A l.length c) l.length (z03 l)):
  Calls prog 10 #[.slice A l.length c] w (KnP l w):=by
 have d:=hid (zaq l A c B w hl hB h);unfold KnP;rw[zmx hw];have g:(z10 l != 0)=true:=by simpa using hw
 clear h hw;generalize z10 l=a at *;go_enter func10,ntmps10;go_wp2_with fail;refine d.o.mono ?_;rintro f e ⟨rfl,b⟩;go_wp2;go_ret;exact⟨rfl,b⟩
theorem q7a:(∀(l) (A) (c B:Nat) (w:World) (hw:z10 l=0) (hc:cmL l=none) (hB:B≤w.heap.size) (h:Sl w B 1 (.slice A l.length c) l.length (z03 l)),Calls prog 10 #[.slice A l.length c] w (KnP l w))∧(∀(l) (A) (c B:Nat) (cm:Cm) (w) (hw:z10 l=0) (hc:cmL l=some cm) (hv:Vars w) (hB:B≤w.heap.size) (h:Sl w B 1 (.slice A l.length c) l.length (z03 l)),Calls prog 10 #[.slice A l.length c] w (KnP l w)):=by
 refine⟨?_,?_⟩;have d:=hid trivial
 rotate_left
 have a5:=hid trivial
 all_goals
  first
  | (guard_hyp d
     intro l A c B w hw hc hB h)
  | (intro l A c B cm w hw hc hv hB h)
  obtain⟨h1,h2,h3⟩:=z6o hw;have S:=hid (zaq l A c B w (by omega) hB h);unfold KnP
  first
  | (guard_hyp d
     rw[zr7 hw hc])
  | (have e:=hid (zr8 hw hc))
  rw[hw] at S;rcases l with _|⟨c0,l'⟩
  ·
   simp at h1
  obtain⟨b,off,rfl,hb,a2,hm,g⟩:=h.at_ (by simp);have Y:=g 0 _ rfl;rw[Ye] at Y
  first
  | (guard_hyp d
     skip)
  | (have j:=hid (fun k t (N:l'[k]? = some t)=>show w.cell? ⟨b,off+1+k,none⟩=some (.string t) from by
      have:=g (k+1) (.string t) (by unfold z03;rw[Yv,Uf,Uc,N];rfl);rwa[show off+(k+1)=off+1+k from by omega] at this))
  have O:=hid (fun W=>zkk c0 W (by have:=h3 c0 (.head _);omega))
  first
  | (guard_hyp d
     have u:=hid (fun W=>q41 (toB (q3m c0)) W (fun cc=>by rw[z9n];exact ztc hc cc));have a3:(0:Int) < ((c0 :: l').length:Int):=by simp)
  | (have u:=hid (fun W=>q42 cm W)
     have EL:q3m c0=cm.bs:=zj4 hc;rw[EL] at O;have Z:=hid (fun W t (ht:t∈l') (hV:Vars W)=>zac t W hV (by have:=h3 t (.tail _ ht);omega));have HV:=hid hv;obtain⟨n,hn⟩:∃n,n=l'.length:=⟨_,rfl⟩;have f:(c0 :: l').length=n+1:=by simp[hn]
     have a7:n≤11:=by omega
     have HN:=hid hn;rw[f] at S a2 e;rw[f];have E1:n+1 - 1=n:=by omega
     rw[E1] at e;have ED:(c0 :: l').drop 1=l':=rfl;rw[ED] at e;generalize hkn:z1x (c0 :: l')=K at *;have a3:(0:Int) < ((n+1:Nat):Int):=by omega)
  have a6:b < w.heap.size:=by omega
  first
  | (guard_hyp d
     clear h hw g h1 h2 h3 hc;generalize (c0 :: l').length=n at *;generalize toB (q3m c0)=tl at *)
  | (obtain⟨a,G⟩:∃a,a=cm.shp:=⟨_,rfl⟩
     rw[←G] at e u;unfold shpV at u;have I:=hid (fun i hi W=>zwr a i hi W);unfold shpV at I;have p:=hid (fun k t (N:l'[k]? = some t)=>zn4 (s:=a) N);clear h hw g h1 h2 h3 hc G hv hn hkn f E1 ED EL;unfold maxLen at hm;generalize toB cm.bs=tl at *;generalize hL:(a.least:Int)=L at *;generalize hM:zre a.most=M at *;generalize hP:a.pairs=P at *;generalize zhx a.nums=C at *
     have V:=hid (show a.bad n=(decide ((n:Int) < L)||(decide (0≤M)&&decide (M < (n:Int)))||(P&&decide (n % 2=0))) from by
      unfold Shp.bad;rw[hP,←hL,←hM];rcases a.most with _|m
      ·
       simp[zre]
      ·
       simp[zre])
     clear hL hM hP)
  go_enter func10,ntmps10;go_wp2_with fail;refine S.o.mono ?_;rintro e1 w1 ⟨rfl,f1⟩;have x1:=f1.cell Y (by simp);have F1:=hid f1;clear f1 Y;go_wp2_with fail;refine(O.o _).mono ?_;rintro e2 w2 ⟨rfl,f2⟩;have F2:=hid (F1.o.trans f2);clear f2 x1;go_wp2_with fail;refine(u.o _).mono ?_;rintro e3 J ⟨rfl,H⟩
  first
  | (guard_hyp d
     have x:=hid (F2.o.trans H);clear H;go_wp2;go_ret;exact⟨rfl,x.o.alloc _⟩)
  | (have x:=hid ((F2.o.trans H).alloc (.cells #[.int .i64 L,.int .i64 M,.bool P,.string C] 109))
     have U:=hid (Whole.new J 109 [.int .i64 L,.int .i64 M,.bool P,.string C]);have a8:=Xd F2.o.size H.size;clear H
     have E:((n:Int) % 2==0)=decide (n % 2=0):=by
      rw[Va];simp;omega
     go_upto_region 8 with fail;go_cut [30] (fun sb wx=>sb=.bool (a.bad n)∧wx=J.alloc (.cells #[.int .i64 L,.int .i64 M,.bool P,.string C] 109))
     case first=>
      rcases P with _|_
      all_goals
       obtain⟨y0,y1,y2,y3⟩:=four U.o;go_wp2
      all_goals
       go_meet
       case rel=>
        refine⟨?_,rfl⟩;rw[V.o];clear V e I u x U O p Z j
        try rw[Xl (show ¬0≤M by omega)]
        simp[*]
        try omega
     case rest=>
      obtain⟨rfl,rfl⟩:=hcut;generalize a.bad n=bd at *;rcases bd with _|_
      ·
       have R:=hid (show K=if z77 a 0 l'=true then 0 else 3 from by rw[e.o];rfl);clear e V E u S O;by_cases hc1:c=1
       ·
        have a0:n=0:=by omega
        subst a0;subst hc1;have z:l'=[]:=Vp.1 HN.o.symm;have r:K=0:=by rw[R.o,z];rfl
        clear R z;subst r;go_wp2;go_loopg [58] 0 (fun y i wr=>y=0∧i=.int .i64 0∧wr=J.alloc (.cells #[.int .i64 L,.int .i64 M,.bool P,.string C] 109))
        case atStart=>exact⟨rfl,rfl,rfl⟩
        case round=>
         obtain⟨rfl,rfl,rfl⟩:=hrel;go_wp2;go_ret;exact⟨rfl,x.o⟩
       ·
        have a4:¬(c:Int)=1:=by omega
        go_wp2;go_loopg [58] n (fun y i wr=>∃k:Nat,y=n - k∧k≤n∧i=.int .i64 k∧z77 a 0 l'=z77 a k (l'.drop k)∧Whole wr J.heap.size 109 [.int .i64 L,.int .i64 M,.bool P,.string C]∧Fr [] w wr)
        case atStart=>exact⟨0,rfl,Xt _,rfl,by rw[List.drop_zero],U.o,x.o⟩
        case round=>
         obtain⟨k,rfl,N,rfl,he,hq,hf⟩:=hrel;have T:=hid he;have Q:=hid hq;have F:=hid hf;clear he hq hf;by_cases hlt:k < n
         ·
          have D:k < l'.length:=by rw[←HN.o];exact hlt
          have e:l'[k]? = some l'[k]:=Xa D;have xw:=F.o.cell (j.o k _ e) (by simp);have ST:=hid (p.o k _ e);have TK:=hid (fun W hV=>Z.o W l'[k] (Vj D) hV);have NK:=hid (fun W=>I.o k (by omega) W);unfold isN at ST;unfold zix at TK;clear e p Z I j;generalize l'[k]=t at *;have k1:k < n - 0:=hlt;go_wp2_with fail;refine(TK.o _ (HV.o.fr F.o)).mono ?_;rintro e1 w4 ⟨v,rfl,-,-,X⟩;have F4:=hid (F.o.trans X);have Q4:=hid (Q.o.f0 X);clear X xw TK;generalize (z5l t.data.toList).isSome=ib at *;obtain⟨y0,y1,y2,y3⟩:=four Q4.o;go_wp2_with fail;refine(NK.o _).mono ?_;rintro e2 w5 ⟨rfl,f5⟩;have F5:=hid (F4.o.trans f5);have Q5:=hid (Q4.o.f0 f5);clear f5 NK y0 y1 y2 y3;generalize a.num k=nb at *;rcases nb with _|_ <;> rcases ib with _|_
          case true.false=>
           have a1:K=3:=by rw[R.o,T.o,ST.o];rfl
           go_wp2;go_ret;exact⟨by rw[a1];rfl,F5.o⟩
          all_goals
           have E2:=hid (show z77 a 0 l'=z77 a (k+1) (l'.drop (k+1)) from by rw[T.o,ST.o];rfl);go_wp2;go_roundg (n - (k+1))
           case measure=>omega
           case rel=>exact⟨k+1,rfl,by omega,by go_num,E2.o,Q5.o,F5.o⟩
         ·
          obtain rfl:k=n:=by omega
          have r:K=0:=by
           rw[R.o,T.o,HN.o,Jc];rfl
          go_wp2;go_ret;exact⟨by rw[r];rfl,F.o⟩
      ·
       go_wp2;go_ret;refine⟨?_,x.o⟩;rw[e.o];rfl)
abbrev zr5:=@And.left _ _ q7a
abbrev zr6:=@And.right _ _ q7a
theorem zav(l:YX)(A)(c B:Nat)(w)(hl:l.length≤281474976710656)(hv:Vars w)(hB:B≤w.heap.size)(h:Sl w B 1 (.slice A l.length c) l.length (z03 l)):
  Calls prog 10 #[.slice A l.length c] w (KnP l w):=by
 by_cases hw:z10 l=0
 ·rcases hc:cmL l with _|cm
  ·exact zr5 l A c B w hw hc hB h
  ·exact zr6 l A c B cm w hw hc hv hB h
 ·exact zr4 l A c B w hw hl hB h
theorem zdz(s)(now:Int)(key)(y)(til:Int)(chg nn:Bool)(e:Int){r:Rep}(h:r.kind≠2)(hk:(fin s now key y til chg nn e r).2.kind=2):(fin s now key y til chg nn e r).1=s:=by
 unfold fin at hk ⊢;split at hk
 ·rename_i he;rw[Xf he];split at hk
  ·rename_i hc;rw[Xf hc];split at hk
   ·exact absurd hk h
   ·rename_i hp;rw[Xc hp]
  ·rename_i hc;rw[Xc hc]
 ·rename_i he;rw[Xc he];split <;> rfl
theorem q67(n:Int):(z0s n).kind≠2:=by show(3:Int)≠2;decide
theorem q1m(t):(z4b t).kind≠2:=by show(1:Int)≠2;decide
theorem q68(t):(z1s t).kind≠2:=by show(4:Int)≠2;decide
theorem q66:zhv.kind≠2:=by show(5:Int)≠2;decide
theorem q65(l):(z2h l).kind≠2:=by show(6:Int)≠2;decide
theorem q2m(c:Cm)(s)(now:Int)(l)(hk:(doC c s now l).2.kind=2):(doC c s now l).1=s:=by
 have d:=fun k y u a b e n (h:(fin s now k y u a b e (z0s n)).2.kind=2)=>zdz s now k y u a b e (q67 n) h;have g:=fun k y u a b e n (h:(fin s now k y u a b e (z4b n)).2.kind=2)=>zdz s now k y u a b e (q1m n) h;have f:=fun k y u a b e n (h:(fin s now k y u a b e (z1s n)).2.kind=2)=>zdz s now k y u a b e (q68 n) h;have j:=fun k y u a b e (h:(fin s now k y u a b e zhv).2.kind=2)=>zdz s now k y u a b e q66 h;have m:=fun k y u a b e n (h:(fin s now k y u a b e (z2h n)).2.kind=2)=>zdz s now k y u a b e (q65 n) h;cases c
 case get=>
  simp only[doC] at hk ⊢;by_cases h1:(z00 s now (wd l 1)).item.kind=0
  ·rw[Xf h1] at hk ⊢;exact j _ _ _ _ _ _ hk
  ·rw[Xc h1] at hk ⊢;exact f _ _ _ _ _ _ _ hk
 case del=>exact absurd hk (q67 _)
 case expire=>
  simp only[doC] at hk ⊢;by_cases h1:(z00 s now (wd l 1)).item.kind=0
  ·rw[Xf h1]
  ·rw[Xc h1] at hk ⊢;by_cases h2:wn l 2 < 1
   ·rw[Xf h2] at hk ⊢;exact d _ _ _ _ _ _ _ hk
   ·rw[Xc h2] at hk ⊢;exact d _ _ _ _ _ _ _ hk
 case persist=>
  simp only[doC] at hk ⊢;by_cases h1:(z00 s now (wd l 1)).item.kind=0∨(z00 s now (wd l 1)).til=0
  ·rw[Xf h1]
  ·rw[Xc h1] at hk ⊢;exact d _ _ _ _ _ _ _ hk
 all_goals
  simp only[doC] at hk ⊢
  try first
   | with_reducible exact d _ _ _ _ _ _ _ hk
   | with_reducible exact g _ _ _ _ _ _ _ hk
   | with_reducible exact f _ _ _ _ _ _ _ hk
   | with_reducible exact m _ _ _ _ _ _ _ hk
def zsd(s:List Ent)(now:Int)(l:YX)(w:World)(e:Ending)(w':World):Prop:=
 ∃u v,e=.returned (.tuple #[u,v])∧z2a w' w.heap.size u (doR s now l).1∧z1i w' w.heap.size v (doR s now l).2∧Fr [] w w'
theorem zb3{s:List Ent}(ok:z22 s):∀e∈s,e.item.list.length≤1000000∧e.item.pairs.length≤1000000∧e.item.scores.length≤1000000:=fun e he=>by
 have hm:=(z2t (ok.items e he)).many;unfold many at hm;omega
theorem zua(s)(sv)(now:Int)(l)(A)(c B:Nat)(w)(ok:z22 s)(hk:z1x l≠0)(hl:l.length≤281474976710656)(hv:Vars w)(hB:B≤w.heap.size)(hs:z1f w B sv s)(h:Sl w B 1 (.slice A l.length c) l.length (z03 l)):
  Calls prog 30 #[sv,.int .i64 now,.slice A l.length c] w (zsd s now l w):=by
 have p:=hid ((Fr.refl [] w).alloc (.cells yRza 27));have M:=hid (Whole.new w 27 yRzl);have x:=hid (fun W (hW:Fr [] w W)=>z5c s sv W B (z17 ok) (zb3 ok) (by have:=ok.le;omega) (Xd hB hW.size) (hs.fr hW hB (by simp)));have e:=hid (fun W (hW:Fr [] w W)=>zav l A c B W hl (hv.fr hW) (Xd hB hW.size) (h.fr hW hB (by simp)));have E:=hid (show doR s now l=(s,z8t (z1x l)) from Xf hk);unfold KnP at e;unfold zsd;have R:(z1x l != 0)=true:=by simpa using hk
 rw[E.o];clear h hs hk hv ok E;generalize z1x l=a at *;obtain⟨n,t⟩:∃n,n=l.length:=⟨_,rfl⟩;rw[←t] at e ⊢;clear t hl;go_enter func30,ntmps30;go_wp2_with fail;refine(x.o _ p.o).mono ?_;rintro V N ⟨u,rfl,j,g⟩;have r:=hid (p.o.trans g);have I:=hid (M.o.f0 g);obtain⟨F,C,rfl⟩:=j.form;have G:=hid j;clear g j;go_wp2_with fail;refine(e.o _ r.o).mono ?_;rintro S Y ⟨rfl,b⟩;have z:=hid (r.o.trans b);have J:=hid (I.o.f0 b);have k:=hid (G.o.fr b);clear b;go_wp2_with fail;refine(zbv _ _).mono ?_;rintro X O ⟨rfl,d⟩;have K:=hid (z.o.trans d);have f:=hid (J.o.f0 d);have m:=hid (k.o.fr d);clear d;obtain⟨H,y,L,D⟩:=four f.o;obtain⟨U,Q,P,T⟩:=z1p f.o;go_wp2;refine Xg (v:=.tuple #[.slice F s.length C,.agg #[.int .i64 2,.string ⟨#[]⟩,.int .i64 a,.slice none 0 0]]) (by simp[results,results30,go_sem,H,y,L,D]) rfl ?_;refine⟨_,_,rfl,?_,z1i.bare _ _ _ _ _,z2d K.o (Xb _) _ _ _ _⟩;exact(m.o.set4W f.o _ _ _ _).base (by simp)
theorem tw1x:(∀(s) (sv) (now:Int) (l) (A) (c B:Nat) (w) (ok:z22 s) (h0:0≤now∧now≤1000000) (hk:z1x l=0) (okp:z22 (doR s now l).1) (hD:∀(c0) (l') (cm:Cm),l=c0 :: l'→cmL l=some cm→zsj cm l'→∀(B0 g:Nat) (W) (tv uv),Vars W→Dr g B0 uv now tv l' s W→Calls prog 99 #[.pointer (some ⟨g,0,none⟩),.string (toB cm.bs)] W (ChD g B0 B0 uv now tv l' (doC cm s now (c0 :: l')) W)) (hc1:¬c=1) (hv:Vars w) (hB:B≤w.heap.size) (hs:z1f w B sv s) (h:Sl w B 1 (.slice A l.length c) l.length (z03 l)),Calls prog 30 #[sv,.int .i64 now,.slice A l.length c] w (zsd s now l w))∧(∀(s) (sv) (now:Int) (l) (A) (c B:Nat) (w) (ok:z22 s) (h0:0≤now∧now≤1000000) (hk:z1x l=0) (okp:z22 (doR s now l).1) (hc1:¬c=1) (hv:Vars w) (hB:B≤w.heap.size) (hs:z1f w B sv s) (h:Sl w B 1 (.slice A l.length c) l.length (z03 l)),Calls prog 30 #[sv,.int .i64 now,.slice A l.length c] w (zsd s now l w))∧(∀(s) (sv) (now:Int) (l) (A) (c B:Nat) (w) (ok:z22 s) (h0:0≤now∧now≤1000000) (hk:z1x l=0) (okp:z22 (doR s now l).1) (hc1:c=1) (hv:Vars w) (hB:B≤w.heap.size) (hs:z1f w B sv s) (h:Sl w B 1 (.slice A l.length c) l.length (z03 l)),Calls prog 30 #[sv,.int .i64 now,.slice A l.length c] w (zsd s now l w)):=by
 refine⟨?_,?_,?_⟩;have a0:=hid trivial
 rotate_left
 have ab:=hid trivial
 rotate_left
 have U:=hid trivial
 all_goals
  first
  | (guard_hyp a0
     intro s sv now l A c B w ok h0 hk okp hD hc1 hv hB hs h)
  | (intro s sv now l A c B w ok h0 hk okp hc1 hv hB hs h)
  obtain⟨c0,l',cm,rfl,a1,a2,KF⟩:=zed hk
  first
  | (guard_hyp U
     subst hc1
     have ad:l'=[]:=by
      obtain⟨_,_,_,_,a9,_,_⟩:=h.at_ (by simp);simpa using a9
     subst ad)
  | (skip)
  have ag:=KF.le;have F0:=hid ((Fr.refl [] w).alloc (.cells yRza 27));have Q0:=hid (Whole.new w 27 yRzl);have OW:=hid (fun W (hW:Fr [] w W)=>z5c s sv W B (z17 ok) (zb3 ok) (by have:=ok.le;omega) (Xd hB hW.size) (hs.fr hW hB (by simp)))
  first
  | (guard_hyp U
     have KN:=hid (fun W (hW:Fr [] w W)=>zav (c0 :: []) A 1 B W (by simp) (hv.fr hW) (Xd hB hW.size) (h.fr hW hB (by simp)));have E:=hid (show doR s now (c0 :: [])=doC cm s now (c0 :: []) from by unfold doR;rw[Xc (by simpa using hk),a2]);have GD:=hid (z0j cm s now (c0 :: [])))
  | (have KN:=hid (fun W (hW:Fr [] w W)=>zav (c0 :: l') A c B W (by simp;omega) (hv.fr hW) (Xd hB hW.size) (h.fr hW hB (by simp)))
     have E:=hid (show doR s now (c0 :: l')=doC cm s now (c0 :: l') from by unfold doR;rw[Xc (by simpa using hk),a2]);have GD:=hid (z0j cm s now (c0 :: l'));have a7:=hid (q2m cm s now (c0 :: l')))
  have a5:c0.size≤281474976710656:=by
   have:=hk;unfold z1x at this
   first
   | (guard_hyp U
      by_cases hw:z10 (c0 :: [])=0)
   | (by_cases hw:z10 (c0 :: l')=0)
   ·
    have:=(z6o hw).2.2 c0 (.head _);omega
   ·
    rw[Xf hw] at this;exact absurd this hw
  have LW:=hid (fun W=>zkk c0 W a5);rw[a1] at LW;unfold KnP at KN;rw[hk] at KN;unfold zsd;rw[E.o] at okp ⊢;obtain⟨b,off,rfl,hb,ac,hm,a6⟩:=h.at_ (by simp);have x0:=a6 0 _ rfl;rw[Ye] at x0
  first
  | (guard_hyp a0
     have TL:=hid (fun W (hW:Fr [] w W) B' (hB':B≤B')=>(zin (h.fr hW hB (by simp)) (by simp) hc1).more hB');have DA:=hid (hD c0 l' cm rfl a2 KF))
  | (guard_hyp ab
     have TL:=hid (fun W (hW:Fr [] w W) B' (hB':B≤B')=>(zin (h.fr hW hB (by simp)) (by simp) hc1).more hB');have DA:=hid (fun(B0 g:Nat) W tv uv (hV:Vars W) (hd:Dr g B0 uv now tv l' s W)=>q1j g B0 uv now tv l' s c0 cm W KF ok h0 hV hd))
  | (have TL:=hid (fun(W:World) (B':Nat)=>show Sl W B' 1 (.slice (some ⟨b,off,none⟩) 0 0) 0 (z03 []) from⟨some ⟨b,off,none⟩,0,rfl,by simp[z03],Xb _,by simp[maxLen],fun h=>absurd h (by omega)⟩)
     have DA:=hid (fun(B0 g:Nat) W tv uv (hV:Vars W) (hd:Dr g B0 uv now tv [] s W)=>q1j g B0 uv now tv [] s c0 cm W KF ok h0 hV hd)
     have ae:=hid (show ¬(doC cm s now (c0 :: [])).2.kind=2 from by
      have hb:=KF.ok;cases cm
      all_goals first|exact absurd hb (by decide)|exact q1m q4l))
  have HV:=hid hv;have OK:=hid ok;have f:=hid okp
  first
  | (guard_hyp U
     have m:(c0 :: ([]:YX)).length=1:=rfl;rw[m] at KN ac;rw[m];have af:(0:Int) < ((1:Nat):Int):=by omega)
  | (obtain⟨n,hn⟩:∃n,n=l'.length:=⟨_,rfl⟩
     have m:(c0 :: l').length=n+1:=by simp[hn]
     have ED:(c0 :: l').drop 1=l':=rfl;have E1:n+1 - 1=n:=by omega
     rw[m] at KN ac TL;rw[m];rw[E1,ED] at TL;have HN:=hid hn;have af:(0:Int) < ((n+1:Nat):Int):=by omega)
  have al:b < w.heap.size:=by omega
  first
  | (guard_hyp U
     unfold maxLen at hm;clear h hs hk hv ok okp E a6 a1 a2 KF a5 m)
  | (have ak:¬(c:Int)=1:=by omega
     unfold maxLen at hm;clear h hs hk hv ok okp E a6 a1 a2 KF a5 m ED E1 hn)
  generalize toB cm.bs=tl at *
  first
  | (guard_hyp U
     generalize doC cm s now (c0 :: [])=t at *)
  | (generalize doC cm s now (c0 :: l')=t at *)
  go_enter func30,ntmps30;go_wp2_with fail;refine(OW.o _ F0.o).mono ?_;rintro e1 w1 ⟨u,rfl,hu,f1⟩;have F1:=hid (F0.o.trans f1)
  first
  | (guard_hyp a0
     have Q1:=hid (Q0.o.fr f1 (by simp)))
  | (have Q1:=hid (Q0.o.f0 f1))
  obtain⟨UA,uc,rfl⟩:=hu.form;have HU:=hid hu;clear f1 hu;go_wp2_with fail;refine(KN.o _ F1.o).mono ?_;rintro e2 p ⟨rfl,f2⟩;have F2:=hid (F1.o.trans f2)
  first
  | (guard_hyp a0
     have Q2:=hid (Q1.o.fr f2 (by simp)))
  | (have Q2:=hid (Q1.o.f0 f2))
  have aa:=hid (HU.o.fr f2);have x2:=F2.o.cell x0 (by simp);have hz2:=F2.o.size;clear f2 x0;have ah:b < p.heap.size:=by omega
  first
  | (guard_hyp U
     have TV:=hid (TL.o p (w.heap.size+1));have F3:=hid (F2.o.alloc (.cells #[.slice UA s.length uc,.int .i64 now,.slice (some ⟨b,off,none⟩) 0 0] 141))
     have D3:=hid (show Dr p.heap.size (w.heap.size+1) (.slice UA s.length uc) now (.slice (some ⟨b,off,none⟩) 0 0) [] s (p.alloc (.cells #[.slice UA s.length uc,.int .i64 now,.slice (some ⟨b,off,none⟩) 0 0] 141)) from
      ⟨Whole.new p _ [.slice UA s.length uc,.int .i64 now,.slice (some ⟨b,off,none⟩) 0 0],by have:=aa.o.fr ((Fr.refl [] p).alloc (.cells #[.slice UA s.length uc,.int .i64 now,.slice (some ⟨b,off,none⟩) 0 0] 141));simpa using this,by exact TV.o.fr ((Fr.refl [] p).alloc _) (by have:=Q2.o.lt;omega) (by simp),by have:=Q2.o.lt;omega⟩)
     have Q3:=hid (Q2.o.alloc (.cells #[.slice UA s.length uc,.int .i64 now,.slice (some ⟨b,off,none⟩) 0 0] 141)))
  | (have TV:=hid (TL.o p F2.o (w.heap.size+1) (by omega))
     have F3:=hid (F2.o.alloc (.cells #[.slice UA s.length uc,.int .i64 now,.slice (some ⟨b,off+1,none⟩) n (c - 1)] 141))
     have D3:=hid (show Dr p.heap.size (w.heap.size+1) (.slice UA s.length uc) now (.slice (some ⟨b,off+1,none⟩) n (c - 1)) l' s (p.alloc (.cells #[.slice UA s.length uc,.int .i64 now,.slice (some ⟨b,off+1,none⟩) n (c - 1)] 141)) from
      ⟨Whole.new p _ [.slice UA s.length uc,.int .i64 now,.slice (some ⟨b,off+1,none⟩) n (c - 1)],by have:=aa.o.fr ((Fr.refl [] p).alloc (.cells #[.slice UA s.length uc,.int .i64 now,.slice (some ⟨b,off+1,none⟩) n (c - 1)] 141));simpa using this,by rw[←HN.o];exact TV.o.fr ((Fr.refl [] p).alloc _) (by have:=Q2.o.lt;omega) (by simp),by have:=Q2.o.lt;omega⟩)
     have Q3:=hid (Q2.o.alloc (.cells #[.slice UA s.length uc,.int .i64 now,.slice (some ⟨b,off+1,none⟩) n (c - 1)] 141)))
  go_wp2_with fail;refine(LW.o _).mono ?_;rintro e4 w4 ⟨rfl,f4⟩;have F4:=hid (F3.o.trans f4);have D4:=hid (D3.o.go f4)
  first
  | (guard_hyp a0
     have Q4:=hid (Q3.o.fr f4 (by simp)))
  | (have Q4:=hid (Q3.o.f0 f4))
  clear f4 x2;go_wp2_with fail;refine(DA.o _ _ _ _ _ (HV.o.fr F4.o) D4.o).mono ?_;rintro e5 Z ⟨v,rfl,hr,f5,hd⟩;have F5:=hid (F4.o.step f5 (fun j hj=>.inr (by have:=(D4.o.low j hj).1;omega)));have Q5:=hid (Q4.o.fr f5 (fun hj=>by have:=(D4.o.low _ hj).1;omega));have HR:=hid hr;have HD:=hid hd;obtain⟨R,y,rfl⟩:=hr.form;clear f5 hr hd;have K:=hid (F5.o.alloc (.cells (yRa t.2 R y) 27));have R6:=hid (Whole.new Z 27 (yRl t.2 R y));have Q6:=hid (Q5.o.alloc (.cells (yRa t.2 R y) 27));have r:=hid (HR.o.fr ((Fr.refl [] Z).alloc (.cells (yRa t.2 R y) 27)));have aj:¬w.heap.size=Z.heap.size:=by have:=Q5.o.lt;omega
  have ai:¬Z.heap.size=w.heap.size:=by have:=Q5.o.lt;omega
  obtain⟨O,V,Y,S⟩:=four R6.o;obtain⟨C,D,z,x⟩:=four Q6.o;obtain⟨P,T,X,Q⟩:=z1p Q6.o
  first
  | (guard_hyp a0
     by_cases a:t.2.kind=2
     ·
      have k1:(t.2.kind==2)=true:=by simpa using a
      have E1:=hid (a7.o a);clear a HD;obtain⟨N,L⟩:=t;simp only at E1 k1 r R6 Q6 K O V Y S C D z x P T X Q GD ⊢;go_upto_region 8 with fail;go_region_held3 (fun wx=>yRc wx Z.heap.size L R y) ((simp only[yRc];go_keep)) ((go_at_call 97;refine(OW.o _ K.o.drew).mono ?_;rintro e7 w7 ⟨u7,rfl,F,d⟩;have F7:=hid (K.o.trans (z01 d));have R7:=hid (R6.o.fr (z01 d) (by simp));have k:=hid (Q6.o.fr (z01 d) (by simp));have H:=hid (r.o.fr (z01 d));obtain⟨U7,G,rfl⟩:=F.form;have I:=hid F;clear d F O V Y S C D z x P T X Q;obtain⟨O,V,Y,S⟩:=four R7.o;obtain⟨C,D,z,x⟩:=four k.o;obtain⟨P,T,X,Q⟩:=z1p k.o));go_wp2;refine Xg (v:=.tuple #[.slice U7 s.length G,.agg (yRa L R y)]) (by simp[results,results30,go_sem,C,D,z,x]) rfl ?_;refine⟨_,_,rfl,?_,z4w (H.o.base (Uh _)) GD.o k.o _ _ _ _,z2d F7.o (Xb _) _ _ _ _⟩;rw[E1.o];exact(I.o.set4W k.o _ _ _ _).base (by have:=K.o.size;simpa using this)
     ·
      have k1:(t.2.kind==2)=false:=by simpa using a
      obtain⟨a8,J⟩:=HD.o a;have M:=hid (J.go ((Fr.refl [] Z).alloc (.cells (yRa t.2 R y) 27)));clear a HD J;obtain⟨N,L⟩:=t;simp only at k1 r R6 Q6 K M O V Y S C D z x P T X Q GD f ⊢;obtain⟨SA,sc,rfl⟩:=M.o.sform;have a4:¬w.heap.size=p.heap.size:=by have:=Q2.o.lt;omega
      have a3:¬p.heap.size=w.heap.size:=by have:=Q2.o.lt;omega
      obtain⟨d0,d1,d2⟩:=M.o.three;have OP:=hid (fun W (hW:Fr [] (Z.alloc (.cells (yRa L R y) 27)) W)=>z5c N (.slice SA N.length sc) W W.heap.size (z17 f.o) (zb3 f.o) (by have:=f.o.le;omega) (Xb _) (M.o.e.fr hW).v);clear d1 d2;go_upto_region 9 with fail;go_region_held3 (fun wx=>yRc wx Z.heap.size L R y∧wx.cell? ⟨p.heap.size,0,none⟩=some (.slice SA N.length sc)) ((simp only[yRc];go_keep)) ((go_at_call 97;refine(OP.o _ (Fr.refl [] _).drew).mono ?_;rintro e7 w7 ⟨u7,rfl,F,d⟩;have F7:=hid (K.o.trans (z01 d));have R7:=hid (R6.o.fr (z01 d) (by simp));have k:=hid (Q6.o.fr (z01 d) (by simp));have H:=hid (r.o.fr (z01 d));have D7:=hid (M.o.go (z01 d));obtain⟨U7,G,rfl⟩:=F.form;have I:=hid F;clear d F O V Y S C D z x P T X Q d0;obtain⟨O,V,Y,S⟩:=four R7.o;obtain⟨C,D,z,x⟩:=four k.o;obtain⟨P,T,X,Q⟩:=z1p k.o;have d0:=D7.o.three.1));go_wp2;refine Xg (v:=.tuple #[.slice U7 N.length G,.agg (yRa L R y)]) (by simp[results,results30,go_sem,C,D,z,x]) rfl ?_;refine⟨_,_,rfl,?_,z4w (H.o.base (Uh _)) GD.o k.o _ _ _ _,z2d F7.o (Xb _) _ _ _ _⟩;exact(I.o.set4W k.o _ _ _ _).base (by have:=K.o.size;simpa using this))
  | (guard_hyp ab
     by_cases a:t.2.kind=2
     ·
      have k1:(t.2.kind==2)=true:=by simpa using a
      have E1:=hid (a7.o a);clear a HD;obtain⟨N,L⟩:=t;simp only at E1 k1 r R6 Q6 K O V Y S C D z x P T X Q GD ⊢;go_upto_region 8 with fail;go_region_held3 (fun wx=>yRc wx Z.heap.size L R y) ((simp only[yRc];go_keep)) ((go_at_call 97;refine(OW.o _ K.o.drew).mono ?_;rintro e7 w7 ⟨u7,rfl,F,d⟩;have F7:=hid (K.o.trans (z01 d));have R7:=hid (R6.o.f0 (z01 d));have k:=hid (Q6.o.f0 (z01 d));have H:=hid (r.o.fr (z01 d));obtain⟨U7,G,rfl⟩:=F.form;have I:=hid F;clear d F O V Y S C D z x P T X Q;obtain⟨O,V,Y,S⟩:=four R7.o;obtain⟨C,D,z,x⟩:=four k.o;obtain⟨P,T,X,Q⟩:=z1p k.o));go_wp2;refine Xg (v:=.tuple #[.slice U7 s.length G,.agg (yRa L R y)]) (by simp[results,results30,go_sem,C,D,z,x]) rfl ?_;refine⟨_,_,rfl,?_,z4w (H.o.base (Uh _)) GD.o k.o _ _ _ _,z2d F7.o (Xb _) _ _ _ _⟩;rw[E1.o];exact(I.o.set4W k.o _ _ _ _).base (by have:=K.o.size;simpa using this)
     ·
      have k1:(t.2.kind==2)=false:=by simpa using a
      obtain⟨a8,J⟩:=HD.o a;have M:=hid (J.go ((Fr.refl [] Z).alloc (.cells (yRa t.2 R y) 27)));clear a HD J;obtain⟨N,L⟩:=t;simp only at k1 r R6 Q6 K M O V Y S C D z x P T X Q GD f ⊢;obtain⟨SA,sc,rfl⟩:=M.o.sform;have a4:¬w.heap.size=p.heap.size:=by have:=Q2.o.lt;omega
      have a3:¬p.heap.size=w.heap.size:=by have:=Q2.o.lt;omega
      obtain⟨d0,d1,d2⟩:=M.o.three;have OP:=hid (fun W (hW:Fr [] (Z.alloc (.cells (yRa L R y) 27)) W)=>z5c N (.slice SA N.length sc) W W.heap.size (z17 f.o) (zb3 f.o) (by have:=f.o.le;omega) (Xb _) (M.o.e.fr hW).v);clear d1 d2;go_upto_region 9 with fail;go_region_held3 (fun wx=>yRc wx Z.heap.size L R y∧wx.cell? ⟨p.heap.size,0,none⟩=some (.slice SA N.length sc)) ((simp only[yRc];go_keep)) ((go_at_call 97;refine(OP.o _ (Fr.refl [] _).drew).mono ?_;rintro e7 w7 ⟨u7,rfl,F,d⟩;have F7:=hid (K.o.trans (z01 d));have R7:=hid (R6.o.f0 (z01 d));have k:=hid (Q6.o.f0 (z01 d));have H:=hid (r.o.fr (z01 d));have D7:=hid (M.o.go (z01 d));obtain⟨U7,G,rfl⟩:=F.form;have I:=hid F;clear d F O V Y S C D z x P T X Q d0;obtain⟨O,V,Y,S⟩:=four R7.o;obtain⟨C,D,z,x⟩:=four k.o;obtain⟨P,T,X,Q⟩:=z1p k.o;have d0:=D7.o.three.1));go_wp2;refine Xg (v:=.tuple #[.slice U7 N.length G,.agg (yRa L R y)]) (by simp[results,results30,go_sem,C,D,z,x]) rfl ?_;refine⟨_,_,rfl,?_,z4w (H.o.base (Uh _)) GD.o k.o _ _ _ _,z2d F7.o (Xb _) _ _ _ _⟩;exact(I.o.set4W k.o _ _ _ _).base (by have:=K.o.size;simpa using this))
  | (have a:¬t.2.kind=2:=ae.o
     have k1:(t.2.kind==2)=false:=by simpa using a
     obtain⟨a8,J⟩:=HD.o a;have M:=hid (J.go ((Fr.refl [] Z).alloc (.cells (yRa t.2 R y) 27)));clear a HD J;obtain⟨N,L⟩:=t;simp only at k1 r R6 Q6 K M O V Y S C D z x P T X Q GD f ⊢;obtain⟨SA,sc,rfl⟩:=M.o.sform;have a4:¬w.heap.size=p.heap.size:=by have:=Q2.o.lt;omega
     have a3:¬p.heap.size=w.heap.size:=by have:=Q2.o.lt;omega
     obtain⟨d0,d1,d2⟩:=M.o.three;have OP:=hid (fun W (hW:Fr [] (Z.alloc (.cells (yRa L R y) 27)) W)=>z5c N (.slice SA N.length sc) W W.heap.size (z17 f.o) (zb3 f.o) (by have:=f.o.le;omega) (Xb _) (M.o.e.fr hW).v);clear d1 d2;go_upto_region 9 with fail;go_region_held3 (fun wx=>yRc wx Z.heap.size L R y∧wx.cell? ⟨p.heap.size,0,none⟩=some (.slice SA N.length sc)) ((simp only[yRc];go_keep)) ((go_at_call 97;refine(OP.o _ (Fr.refl [] _).drew).mono ?_;rintro e7 w7 ⟨u7,rfl,F,d⟩;have F7:=hid (K.o.trans (z01 d));have R7:=hid (R6.o.f0 (z01 d));have k:=hid (Q6.o.f0 (z01 d));have H:=hid (r.o.fr (z01 d));have D7:=hid (M.o.go (z01 d));obtain⟨U7,G,rfl⟩:=F.form;have I:=hid F;clear d F O V Y S C D z x P T X Q d0;obtain⟨O,V,Y,S⟩:=four R7.o;obtain⟨C,D,z,x⟩:=four k.o;obtain⟨P,T,X,Q⟩:=z1p k.o;have d0:=D7.o.three.1));go_wp2;refine Xg (v:=.tuple #[.slice U7 N.length G,.agg (yRa L R y)]) (by simp[results,results30,go_sem,C,D,z,x]) rfl ?_;refine⟨_,_,rfl,?_,z4w (H.o.base (Uh _)) GD.o k.o _ _ _ _,z2d F7.o (Xb _) _ _ _ _⟩;exact(I.o.set4W k.o _ _ _ _).base (by have:=K.o.size;simpa using this))
abbrev zmi:=@And.left _ _ tw1x
abbrev zqr:=@And.left _ _ (@And.right _ _ tw1x)
abbrev zqq:=@And.right _ _ (@And.right _ _ tw1x)
theorem zjp(s)(sv)(now:Int)(l)(A)(c B:Nat)(w)(ok:z22 s)(h0:0≤now∧now≤1000000)(hk:z1x l=0)(hcm:cmL l=some .rpush)(okp:z22 (doR s now l).1)(hc1:¬c=1)(hv:Vars w)(hB:B≤w.heap.size)(hs:z1f w B sv s)(h:Sl w B 1 (.slice A l.length c) l.length (z03 l)):
  Calls prog 30 #[sv,.int .i64 now,.slice A l.length c] w (zsd s now l w):=
 zmi s sv now l A c B w ok h0 hk okp (fun c0 l' cm e hc KF B0 g W tv uv hV hd=>by
  subst e;rw[hcm] at hc;cases hc;have hl:2≤l'.length:=z0g KF.ok;exact z45 g B0 uv now tv l' s _ ⟨#[114,112,117,115,104]⟩ (.inr (.inl rfl)) W (z0j _ _ _ _) hd (fun W hF hd=>zhd false _ (.inr ⟨rfl,rfl⟩) g B0 uv now tv l' s c0 W ok hl KF.le KF.sz hd)) hc1 hv hB hs h
theorem zoa{α:Type}{l:List α}{p:α→Bool}(h:∀x∈l,p x=false):l.any p=false:=by
 rw[Ue];intro x a;rw[h x a];decide
theorem zmz{x:Itm}(h1:∀s∈x.list,s.size≤60)(h2:∀p∈x.pairs,p.1.size≤60∧p.2.size≤60)(h3:∀p∈x.scores,p.2.size≤60):zax x=false:=by
 unfold zax;rw[zoa (fun s hs=>by unfold z5a;exact Xl (by have:=h1 s hs;omega)),zoa (fun s hs=>by unfold z5e;rw[Xl (by have:=h2 s hs;omega),Xl (by have:=h2 s hs;omega)];rfl),zoa (fun s hs=>by unfold za4;exact Xl (by have:=h3 s hs;omega))];rfl
theorem q2g{x:Itm}(hk:2≤x.kind∧x.kind≤5)(hb:z6q x=true)(h0:0 < many x)(h24:many x≤24)(hl:zax x=false)(h3:x.kind=3→rises ltS x.list=true)(h4:x.kind=4→rises ltP x.pairs=true)(h5:z1d x.scores=0):z0a x=0:=by
 unfold z0a
 rw[Xc (by omega),Xc (by rw[hb];decide),Xc (by omega),Xc (by omega),Xc (by rw[hl];simp;omega),Xc (by
  rintro(⟨h,he⟩|⟨h,he⟩)
  ·rw[h3 h] at he;exact absurd he (by decide)
  ·rw[h4 h] at he;exact absurd he (by decide))]
 exact h5
def OkI(y:Itm):Prop:=z0a y=0∨z0v y=true
theorem z5b:OkI (z2q 0):=.inr z44
theorem q2h{s:YY}(h:s.size≤60):z0a (z50 s)=0:=by
 unfold z0a z6q z50;simp;omega
theorem zn8{s:YY}(h:s.size≤60):OkI (z50 s):=.inl (q2h h)
theorem zta{k:Int}{L:YX}(hk:k=2∨k=3∧rises ltS L=true)(h0:0 < L.length)(h24:L.length≤24)(ht:∀s∈L,s.size≤60):z0a (zd1 k L)=0:=by
 have e:many (zd1 k L)=L.length:=by show L.length+0+0=L.length;omega
 refine q2g (x:=zd1 k L) (by show 2≤k∧k≤5;omega) ?_ (by omega) (by omega) (zmz ht (fun p a=>by cases a) (fun p a=>by cases a)) (fun h=>?_) (fun h=>?_) rfl
 ·rcases hk with rfl|⟨rfl,_⟩ <;> rfl
 ·rcases hk with rfl|⟨_,hr⟩
  ·exact absurd (show(2:Int)=3 from h) (by decide)
  ·exact hr
 ·have:k=4:=h;omega
theorem zku{L:YX}(h24:L.length≤24)(ht:∀s∈L,s.size≤60):OkI (ofL L):=by
 unfold ofL;split
 ·exact z5b
 ·exact .inl (zta (.inl rfl) (by omega) h24 ht)
theorem q1q{L:YX}(hr:rises ltS L=true)(h24:L.length≤24)(ht:∀s∈L,s.size≤60):OkI (ofK 3 L):=by
 unfold ofK;split
 ·exact z5b
 ·exact .inl (zta (.inr ⟨rfl,hr⟩) (by omega) h24 ht)
theorem q1s{L:List (YY×YY)}(hr:rises ltP L=true)(h24:L.length≤24)(ht:∀p∈L,p.1.size≤60∧p.2.size≤60):OkI (ofP L):=by
 unfold ofP;split
 ·exact z5b
 ·have e:many (zkw L)=L.length:=by show 0+L.length+0=L.length;omega
  exact .inl (q2g (x:=zkw L) (by show(2:Int)≤4∧(4:Int)≤5;omega) rfl (by omega) (by omega) (zmz (fun p a=>by cases a) ht (fun p a=>by cases a)) (fun h=>absurd (show(4:Int)=3 from h) (by decide)) (fun _=>hr) rfl)
theorem q1r{L:List (Int×YY)}(h:z9s L)(h24:L.length≤24):OkI (ofC L):=by
 unfold ofC;split
 ·exact z5b
 ·have e:many (zcr L)=L.length:=by show 0+0+L.length=L.length;omega
  refine .inl (q2g (x:=zcr L) (by show(2:Int)≤5∧(5:Int)≤5;omega) rfl (by omega) (by omega) (zmz (fun p a=>by cases a) (fun p a=>by cases a) (fun p a=>(h.ok p a).2)) (fun k=>absurd (show(5:Int)=3 from k) (by decide)) (fun k=>absurd (show(5:Int)=4 from k) (by decide)) ?_);show z1d L=0;unfold z1d;rw[Xc (by rw[zoa (fun p a=>by rw[(h.ok p a).1];rfl)];decide),Xc (by intro b;exact b h.dist),Xf h.rise]
theorem q6g(x)(s):OkI (apY x s):=by
 unfold apY;split
 ·rename_i h;refine zn8 ?_;unfold z4d at h;split at h
  ·rename_i ha;exact absurd h ha
  ·split at h
   ·cases h
   ·rw[ByteArray.size_append];omega
 ·exact z5b
theorem adOk{x:Itm}{n:Int}(h:z4p x n=0):z0o (z6f x+n)=true:=by
 unfold z4p at h;split at h
 ·rename_i ha;exact absurd h ha
 ·split at h
  ·cases h
  ·split at h
   ·rename_i h2;exact h2.2
   ·cases h
theorem q6f(x)(n:Int):OkI (adY x n):=by
 unfold adY;split
 ·rename_i h;refine zn8 ?_;have:=(zpa (adOk h)).2;show(Lib.itoa (z6f x+n)).toArray.size≤60;have e:(Lib.itoa (z6f x+n)).toArray.size≤10:=by simpa using this
  omega
 ·exact z5b
theorem zpl(x)(left:Bool)(l):OkI (zc5 x left l):=by
 unfold zc5;split
 ·rename_i h;unfold z18 at h;split at h
  ·rename_i ha;exact absurd h ha
  ·rename_i ha;split at h
   ·rename_i hb;exact absurd h hb
   ·rename_i hb;split at h
    ·cases h
    ·have a:=z1m (Decidable.not_not.1 ha);refine zku (by rw[z4v];omega) (fun s hs=>?_);rcases zi1 hs with h1|h1
     ·exact a.texts s h1
     ·exact z7d (Decidable.not_not.1 hb) s h1
 ·exact z5b
theorem zj1{k:Int}{x:Itm}(h:z02 k x=0):x.list.length≤24∧x.pairs.length≤24∧x.scores.length≤24:=by
 have:=(z1m h).le24;unfold many at this;omega
theorem popOk{x:Itm}(h:z1q x=0):z02 2 x=0∧x.kind≠0:=by
 unfold z1q at h;split at h
 ·rename_i ha;exact absurd h ha
 ·rename_i ha;split at h
  ·cases h
  ·rename_i hk;exact⟨Decidable.not_not.1 ha,hk⟩
theorem zvx(x)(left:Bool):OkI (zg0 x left):=by
 unfold zg0;split
 ·rename_i h;have b:=(popOk h).1;have d:=(zj1 b).1;have a:=z1m b;unfold zxh;cases left
  ·exact zku (by simp;omega) (fun s hs=>a.texts s (Ud (show s∈x.list.take (x.list.length - 1) from hs)))
  ·exact zku (by simp;omega) (fun s hs=>a.texts s (Yp (show s∈x.list.drop 1 from hs)))
 ·exact z5b
theorem q09{x:Itm}(h:z02 2 x=0)(a b:Int):OkI (ofL (z28 x.list a b)):=by
 have e:=(zj1 h).1;have d:=z1m h;have hs:=z6z x.list.length a b;exact zku (by rw[z2p];omega) (fun s hs=>d.texts s (z81 hs))
theorem q44(x)(s):OkI (zxj x s):=by
 unfold zxj;split
 ·rename_i h;exact zku (Xd (Xv _ _) (zj1 h).1) (fun t a=>(z1m h).texts t (Yj.1 a).1)
 ·exact z5b
theorem zvy(x)(m):OkI (z8y 3 x m):=by
 unfold z8y;split
 ·rename_i h;exact q1q (z34 ((z2u zgl (zih h).1).filter _)) (Xd (Xv _ _) (zj1 h).1) (fun t a=>(z1m h).texts t (Yj.1 a).1)
 ·exact z5b
theorem q06(x)(l):OkI (zcx x l):=by
 unfold zcx;split
 ·rename_i h;obtain⟨a,b⟩:=zm2 h;exact q1q (z9i _) b (zdq a)
 ·exact z5b
theorem q43(x)(l:List (YY×YY)):OkI (zsf x l):=by
 unfold zsf;split
 ·rename_i h;unfold z23 at h;split at h
  ·rename_i a;exact absurd h a
  ·rename_i a;have a:=Decidable.not_not.1 a;split at h
   ·cases h
   ·rename_i h24;unfold z1y at a;split at a
    ·rename_i b;exact absurd a b
    ·rename_i b;have b:=Decidable.not_not.1 b;split at a
     ·cases a
     ·split at a
      ·cases a
      ·rename_i hl;refine q1s (zby Prod.fst l (z9e b)) (by omega) (fun p d=>?_);rcases zdf Prod.fst l d with h1|h1
       ·exact zhw hl p h1
       ·exact(zb1 b).2 p h1
 ·exact z5b
theorem q07(x)(l):OkI (zd0 x l):=by
 unfold zd0;split
 ·rename_i h;exact q1s (z34 ((z2u (z3r Prod.fst) (z9e h)).filter _)) (Xd (Xv _ _) (zj1 h).2.1) (fun p a=>(zb1 h).2 p (Yj.1 a).1)
 ·exact z5b
theorem q08(x)(l:List (Int×YY)):OkI (zd2 x l):=by
 unfold zd2;split
 ·rename_i h;unfold zf1 at h;split at h
  ·rename_i hp;exact absurd h hp
  ·rename_i hp;split at h
   ·cases h
   ·rename_i h24;obtain⟨a,b⟩:=zw9 (Decidable.not_not.1 hp);exact q1r (z9s.fold l (z3t a).1 (zcb b).2) (by omega)
 ·exact z5b
theorem zvw(x)(l):OkI (z8s x l):=by
 unfold z8s;split
 ·rename_i h;exact q1r ((z3t h).1.sub Kf) (Xd (Xv _ _) (z3t h).2)
 ·exact z5b
theorem q6o{s:List Ent}{now til:Int}{key:YY}{y:Itm}(ok:z22 s)(hk:key.size≤60)(hy:OkI y)(ht:z0v y=true∨(0≤til∧til≤1000000))(hp:z2r s now key y til=0):z22 (zb7 s now key y til):=by
 unfold zb7;by_cases hn:z0v y=true
 ·rw[Xf hn];exact zaa ok _
 ·rw[Xc hn];unfold z2r at hp;rw[Xc hn] at hp;by_cases h16:16 < (zrt s now key y til).length
  ·rw[Xf h16] at hp;cases hp
  ·rw[Xc h16]
   have b:z0a y=0:=by
    rcases hy with h|h
    ·exact h
    ·exact absurd h hn
   have a:0≤til∧til≤1000000:=by
    rcases ht with h|h
    ·exact absurd h hn
    ·exact h
   exact⟨by omega,zi2 (P:=fun e=>e.key.size≤60) ok.keys hk,zi2 (P:=fun e=>z0a e.item=0) ok.items b,zi2 (P:=fun e=>0≤e.til∧e.til≤1000000) ok.times a,zru ok.rise now key y til⟩
theorem z4r{s:List Ent}{now:Int}{key:YY}{y:Itm}{til:Int}{chg nn:Bool}{e:Int}{r:Rep}(ok:z22 s)(hk:key.size≤60)(h:chg=true→e=0→OkI y∧(z0v y=true∨(0≤til∧til≤1000000))):z22 (fin s now key y til chg nn e r).1:=by
 unfold fin;by_cases he:e=0
 ·rw[Xf he];by_cases hc:chg=true
  ·rw[Xf hc];by_cases hp:z2r s now key y til=0
   ·rw[Xf hp];obtain⟨a,b⟩:=h hc he;exact q6o ok hk a b hp
   ·rw[Xc hp];exact ok
  ·rw[Xc hc];exact ok
 ·rw[Xc he];split <;> exact ok
theorem za0{s:List Ent}{now:Int}{key:YY}{y:Itm}{til:Int}{nn:Bool}{e:Int}{r:Rep}(ok:z22 s):z22 (fin s now key y til false nn e r).1:=by
 have:(fin s now key y til false nn e r).1=s:=by
  unfold fin;split
  ·rfl
  ·split <;> rfl
 rw[this];exact ok
theorem zki{s:List Ent}(ok:z22 s)(now:Int)(k):0≤(z00 s now k).til∧(z00 s now k).til≤1000000:=by
 rcases z7r s now k with⟨a,b⟩|⟨a,b,h3,_⟩
 ·rw[a];exact⟨Int.le_refl _,by decide⟩
 ·exact ok.times _ a
theorem zhp{s:List Ent}(ok:z22 s)(now:Int)(k):OkI (z00 s now k).item:=by
 rcases z62 ok now k with⟨a,_⟩|⟨a,_⟩
 ·rw[a];exact z5b
 ·exact .inl a
theorem q1h(now:Int):∀(l) {s:List Ent} (n:Nat),z22 s→z22 (zje now l s n).1
 | [],_,_,ok=>ok
 | k :: l,s,n,ok=>by
  unfold zje;refine q1h now l _ ?_;unfold zb7;rw[Xf z44];exact zaa ok _
theorem q5t(c:Cm)(s)(now:Int)(l)(ok:z22 s)(h0:0≤now∧now≤1000000)(hz:∀t∈l,t.size≤60):z22 (doC c s now l).1:=by
 have a:∀i,(wd l i).size≤60:=zfl hz;have b:=zki ok now (wd l 1);cases c
 case ping=>exact ok
 case get=>
  simp only[doC];split
  ·exact za0 ok
  ·exact za0 ok
 case set_=>exact z4r ok (a 1) (fun _ _=>⟨zn8 (a 2),.inr (by omega)⟩)
 case append_=>exact z4r ok (a 1) (fun _ _=>⟨q6g _ _,.inr b⟩)
 case incrby=>exact z4r ok (a 1) (fun _ _=>⟨q6f _ _,.inr b⟩)
 case del=>exact q1h now _ 0 ok
 case exists_=>exact ok
 case type_=>exact ok
 case ttl=>exact ok
 case expire=>
  simp only[doC];split
  ·exact ok
  ·split
   ·exact z4r ok (a 1) (fun _ _=>⟨z5b,.inl z44⟩)
   ·refine z4r ok (a 1) (fun _ d=>⟨zhp ok _ _,.inr ?_⟩);by_cases hm:1000000 < now+wn l 2
    ·rw[Xf hm] at d;cases d
    ·omega
 case persist=>
  simp only[doC];split
  ·exact ok
  ·exact z4r ok (a 1) (fun _ _=>⟨zhp ok _ _,.inr (by omega)⟩)
 case lpush=>exact z4r ok (a 1) (fun _ _=>⟨zpl _ _ _,.inr b⟩)
 case rpush=>exact z4r ok (a 1) (fun _ _=>⟨zpl _ _ _,.inr b⟩)
 case lpop=>exact z4r ok (a 1) (fun _ _=>⟨zvx _ _,.inr b⟩)
 case rpop=>exact z4r ok (a 1) (fun _ _=>⟨zvx _ _,.inr b⟩)
 case ltrim=>exact z4r ok (a 1) (fun _ d=>⟨q09 d _ _,.inr b⟩)
 case lrem=>exact z4r ok (a 1) (fun _ _=>⟨q44 _ _,.inr b⟩)
 case sadd=>exact z4r ok (a 1) (fun _ _=>⟨q06 _ _,.inr b⟩)
 case srem=>exact z4r ok (a 1) (fun _ _=>⟨zvy _ _,.inr b⟩)
 case hset=>exact z4r ok (a 1) (fun _ _=>⟨q43 _ _,.inr b⟩)
 case hdel=>exact z4r ok (a 1) (fun _ _=>⟨q07 _ _,.inr b⟩)
 case zadd=>exact z4r ok (a 1) (fun _ _=>⟨q08 _ _,.inr b⟩)
 case zrem=>exact z4r ok (a 1) (fun _ _=>⟨zvw _ _,.inr b⟩)
 all_goals exact za0 ok
theorem zgy{l:YX}(h:z1x l=0):∀t∈l,t.size≤60:=by
 unfold z1x at h;by_cases hw:z10 l=0
 ·exact(z6o hw).2.2
 ·rw[Xf hw] at h;exact absurd h hw
theorem ztu{s:List Ent}{now:Int}{l:YX}(ok:z22 s)(h0:0≤now∧now≤1000000):z22 (doR s now l).1:=by
 unfold doR;by_cases hk:z1x l=0
 ·rw[Xc (by simpa using hk)];split
  ·exact ok
  ·exact q5t _ s now l ok h0 (zgy hk)
 ·rw[Xf hk];exact ok
end
end Go.Proofs.YtnmoajaelmimnaaGreatDoor
