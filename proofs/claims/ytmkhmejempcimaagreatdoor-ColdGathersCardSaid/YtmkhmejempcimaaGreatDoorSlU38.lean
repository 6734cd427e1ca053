/- Contracts; no condition but each theorem's own. -/
import Derived.Test.YtmkhmejempcimaaGreatDoorSlU31
set_option linter.unusedVariables false
set_option linter.unusedSimpArgs false
set_option maxHeartbeats 8000000
set_option maxRecDepth 100000
namespace Go.Proofs.YtmkhmejempcimaaGreatDoor
open Lib (hid)
open Go.Proofs.Tryz (prog)
open Go.RowKit
theorem z7f(ls:List (List ByteArray))(v u:Value)(w:World)(B:Nat)(hs:∀l∈ls,l.length≤281474976710656)(hl:ls.length≤281474976710656)(hB:B≤w.heap.size)(h:z2p w B v ls)(k:z2p w B u ls):
  Calls prog 32 #[v,u] w fun e w'=>e=.returned (.bool true)∧Fr [] w w':=by
 obtain⟨A,c,rfl⟩:=h.form;obtain⟨A',c',rfl⟩:=k.form;have HV:=hid h;have KV:=hid k;have HS:=hid hs;clear h k hs;go_enter Tryz.func32,Tryz.ntmps32;go_wp2;go_loopg [5] ls.length (fun g i wr=>∃(k:Nat),g=ls.length - k∧k≤ls.length∧i=.int .i64 k∧Fr [] w wr)
 case atStart=>exact⟨0,rfl,Nat.zero_le _,rfl,Fr.refl _ _⟩
 case round=>
  obtain⟨k,rfl,hk,rfl,hf⟩:=hrel;have HF:=hid hf;clear hf;by_cases hlt:k < ls.length
  ·obtain⟨b,off,rfl,hb,hc,hmx,hat⟩:=HV.out.at_ (by omega);obtain⟨b2,off2,rfl,hb2,hc2,hmx2,hat2⟩:=KV.out.at_ (by omega);obtain⟨l,he⟩:∃l,ls[k]? = some l:=⟨_,List.getElem?_eq_getElem hlt⟩;obtain⟨A1,c1,x1,s1⟩:=hat k l he;obtain⟨A2,c2,x2,s2⟩:=hat2 k l he;have y1:=HF.out.cell x1 (by simp);have y2:=HF.out.cell x2 (by simp);have hem:=HS.out l (List.mem_of_getElem? he)
   have ST:=hid (fun W (hW:Fr [] wr W)=>(show Calls prog 59 #[.slice A1 l.length c1,.slice A2 l.length c2] W fun e w'=>e=.returned (.bool true)∧Fr [] W w' from by
    have hW2:=HF.out.trans hW;have:=z68 l l A1 A2 c1 c2 B W hem hem (Nat.le_trans hB hW2.size) (s1.fr hW2 hB (by simp)) (s2.fr hW2 hB (by simp));rw[show z8f l l=true from by unfold z8f;simp] at this;exact this))
   clear hat hat2 x1 x2 s1 s2 he hem;go_wp2;go_region_held3 (fun wx=>wx.cell? ⟨b,off+k,none⟩=some (.slice A1 l.length c1)∧wx.cell? ⟨b2,off2+k,none⟩=some (.slice A2 l.length c2)) (go_keep) ((go_at_call 59;refine(ST.out _ (Fr.refl [] _).drew).mono ?_;rintro e9 w2 ⟨rfl,f2⟩;have G2:=hid (z01 f2);have z1:=G2.out.cell y1 (by simp);have z2:=G2.out.cell y2 (by simp);clear f2 y1 y2;have y1:=z1;have y2:=z2;clear z1 z2));go_wp2;go_roundg (ls.length - (k+1))
   case measure=>omega
   case rel=>exact⟨k+1,rfl,by omega,by go_num,HF.out.trans G2.out⟩
  ·obtain rfl:k=ls.length:=by omega
   go_wp2;go_ret;exact⟨rfl,HF.out⟩
def SsW(wr:World)(xs ys:List Value)(p q:Value)(wx:World):Prop:=∃g h,p=.pointer (some ⟨g,0,none⟩)∧q=.pointer (some ⟨h,0,none⟩)∧Whole wx g 50 xs∧Whole wx h 50 ys∧Fr [] wr wx
theorem SsW.one(wr:World)(xs ys:List Value):SsW wr xs ys (.pointer (some ⟨wr.heap.size,0,none⟩)) (.pointer (some ⟨wr.heap.size+1,0,none⟩)) ((wr.alloc (.cells xs.toArray 50)).alloc (.cells ys.toArray 50)).drew:=
 ⟨_,_,rfl,rfl,((Whole.new wr _ xs).alloc _).drew,by
  have:=(Whole.new (wr.alloc (.cells xs.toArray 50)) 50 ys).drew;simpa using this,(((Fr.refl [] wr).alloc _).alloc _).drew⟩
theorem SsW.two(wr:World)(xs ys:List Value):SsW wr xs ys (.pointer (some ⟨wr.heap.size+1,0,none⟩)) (.pointer (some ⟨wr.heap.size,0,none⟩)) ((wr.alloc (.cells ys.toArray 50)).alloc (.cells xs.toArray 50)).drew:=by
 obtain⟨g,h,e1,e2,h1,h2,f⟩:=SsW.one wr ys xs;exact⟨_,_,e2,e1,h2,h1,f⟩
theorem za9(s:Sto)(v u:Value)(w:World)(B:Nat)(hs:s.Small)(hB:B≤w.heap.size)(h:z2h w B v s)(k:z2h w B u s):
  Calls prog 13 #[v,u] w fun e w'=>e=.returned (.bool true)∧Fr [] w w':=by
 obtain⟨a,b,rfl,h1,h2⟩:=h;obtain⟨a',b',rfl,k1,k2⟩:=k;obtain⟨A,c,rfl⟩:=h1.form;obtain⟨A',c',rfl⟩:=k1.form;obtain⟨R,rc,rfl⟩:=h2.form;obtain⟨R',rc',rfl⟩:=k2.form;have SC:=hid (fun W (hW:Fr [] w W)=>z7f s.segs _ _ W B (fun l hl=>(hs.segs l hl).1) hs.sle (Nat.le_trans hB hW.size) (h2.fr hW hB (by simp)) (k2.fr hW hB (by simp)));have HV:=hid h1;have KV:=hid k1;have HS:=hid hs.slots;have hl:=hs.le;clear h1 h2 k1 k2 hs;generalize s.slots=l at *;generalize s.segs=ss at *;go_enter Tryz.func13,Tryz.ntmps13;have F0:=hid (((Fr.refl [] w).alloc (.cells #[.slice A l.length c,.slice R ss.length rc] 25)).alloc (.cells #[.slice A' l.length c',.slice R' ss.length rc'] 25));have P0:=hid ((Whole.new w 25 [.slice A l.length c,.slice R ss.length rc]).alloc (.cells #[.slice A' l.length c',.slice R' ss.length rc'] 25))
 have Q0:=hid (show Whole ((w.alloc (.cells #[.slice A l.length c,.slice R ss.length rc] 25)).alloc (.cells #[.slice A' l.length c',.slice R' ss.length rc'] 25)) (w.heap.size+1) 25 [.slice A' l.length c',.slice R' ss.length rc'] from by
  have:=Whole.new (w.alloc (.cells #[.slice A l.length c,.slice R ss.length rc] 25)) 25 [.slice A' l.length c',.slice R' ss.length rc'];simpa using this)
 have C1:=hid (SC.out _ F0.out);go_wp2_with fail;refine C1.out.mono ?_;rintro e w1 ⟨rfl,f1⟩;have F1:=hid (F0.out.trans f1);have P1:=hid (P0.out.fr f1 (by simp));have Q1:=hid (Q0.out.fr f1 (by simp));clear f1 F0 P0 Q0 C1 SC;go_wp2;go_loopg [5] l.length (fun g i wr=>∃(k:Nat),g=l.length - k∧k≤l.length∧i=.int .i64 k∧Fr [] w wr∧Whole wr w.heap.size 25 [.slice A l.length c,.slice R ss.length rc]∧Whole wr (w.heap.size+1) 25 [.slice A' l.length c',.slice R' ss.length rc'])
 case atStart=>exact⟨0,rfl,Nat.zero_le _,rfl,F1.out,P1.out,Q1.out⟩
 case round=>
  obtain⟨k,rfl,hk,rfl,hf,hp,hq⟩:=hrel;have HF:=hid hf;have HP:=hid hp;have HQ:=hid hq;have p0:=hp.cell 0;have q0:=hq.cell 0;simp at p0 q0;clear hf hp hq;by_cases hlt:k < l.length
  ·obtain⟨b,off,rfl,hb,hc,hmx,hat⟩:=HV.out.at_ (by omega);obtain⟨b2,off2,rfl,hb2,hc2,hmx2,hat2⟩:=KV.out.at_ (by omega);obtain⟨e,he⟩:∃e,l[k]? = some e:=⟨_,List.getElem?_eq_getElem hlt⟩;obtain⟨X1,X2,X3,x1,x2,x3,h7⟩:=hat k e he;obtain⟨Y1,Y2,Y3,y1,y2,y3,k7⟩:=hat2 k e he;have P7:=hid (h7.fr HF.out hb hB (by simp));have Q7:=hid (k7.fr HF.out hb2 hB (by simp));have hem:=HS.out e (List.mem_of_getElem? he)
   have SI:=hid (fun W (hW:Fr [] wr W)=>(show Calls prog 31 #[.agg #[.int .i64 e.item.kind,.string e.item.text,.slice X1 e.item.list.length x1,.slice X2 e.item.pairs.length x2,.slice X3 e.item.scores.length x3],.agg #[.int .i64 e.item.kind,.string e.item.text,.slice Y1 e.item.list.length y1,.slice Y2 e.item.pairs.length y2,.slice Y3 e.item.scores.length y3]] W fun e w'=>e=.returned (.bool true)∧Fr [] W w' from by
    have hz:=Nat.le_trans hB (HF.out.trans hW).size;have:=z78 e.item e.item _ _ W B hem.item hem.item hz ((P7.out.ent.fr hW (Nat.le_trans hB HF.out.size) (by simp)).item) ((Q7.out.ent.fr hW (Nat.le_trans hB HF.out.size) (by simp)).item);rw[z9g] at this;exact this))
   have HEM:=hid hem;clear hat hat2 h7 k7 he hem;obtain⟨ux0,ux1,ux2,ux3,ux4,ux5,ux6,ux7,ux8,ux9,-⟩:=P7.out;obtain⟨v0,v1,v2,v3,v4,v5,v6,v7,v8,v9,-⟩:=Q7.out;go_upto_region 6 with fail;go_cut [6,7] (fun p q wx=>SsW wr (z1f e X1 x1 X2 x2 X3 x3) (z1f e Y1 y1 Y2 y2 Y3 y3) p q wx)
   case first=>
    go_region_held3 (fun wx=>wx.cell? ⟨w.heap.size,0,none⟩=some (.slice (some ⟨b,off,none⟩) l.length c)∧wx.cell? ⟨w.heap.size+1,0,none⟩=some (.slice (some ⟨b2,off2,none⟩) l.length c')∧wx.cell? ⟨b,off+k * 10,none⟩=some (.string e.key)∧wx.cell? ⟨b,off+k * 10+1,none⟩=some (.bool e.cold)∧wx.cell? ⟨b,off+k * 10+2,none⟩=some (.int .i64 e.item.kind)∧wx.cell? ⟨b,off+k * 10+3,none⟩=some (.string e.item.text)∧wx.cell? ⟨b,off+k * 10+4,none⟩=some (.slice X1 e.item.list.length x1)∧wx.cell? ⟨b,off+k * 10+5,none⟩=some (.slice X2 e.item.pairs.length x2)∧wx.cell? ⟨b,off+k * 10+6,none⟩=some (.slice X3 e.item.scores.length x3)∧wx.cell? ⟨b,off+k * 10+7,none⟩=some (.int .i64 e.seg)∧wx.cell? ⟨b,off+k * 10+8,none⟩=some (.int .i64 e.rcd)∧wx.cell? ⟨b,off+k * 10+9,none⟩=some (.int .i64 e.til)∧wx.cell? ⟨b2,off2+k * 10,none⟩=some (.string e.key)∧wx.cell? ⟨b2,off2+k * 10+1,none⟩=some (.bool e.cold)∧wx.cell? ⟨b2,off2+k * 10+2,none⟩=some (.int .i64 e.item.kind)∧wx.cell? ⟨b2,off2+k * 10+3,none⟩=some (.string e.item.text)∧wx.cell? ⟨b2,off2+k * 10+4,none⟩=some (.slice Y1 e.item.list.length y1)∧wx.cell? ⟨b2,off2+k * 10+5,none⟩=some (.slice Y2 e.item.pairs.length y2)∧wx.cell? ⟨b2,off2+k * 10+6,none⟩=some (.slice Y3 e.item.scores.length y3)∧wx.cell? ⟨b2,off2+k * 10+7,none⟩=some (.int .i64 e.seg)∧wx.cell? ⟨b2,off2+k * 10+8,none⟩=some (.int .i64 e.rcd)∧wx.cell? ⟨b2,off2+k * 10+9,none⟩=some (.int .i64 e.til)) (go_keep) (fail)
    all_goals
     go_wp2;go_meet
     case rel=>first|exact SsW.one _ _ _|exact SsW.two _ _ _
   clear ux0 ux1 ux2 ux3 ux4 ux5 ux6 ux7 ux8 ux9 v0 v1 v2 v3 v4 v5 v6 v7 v8 v9;obtain⟨ga,gb,rfl,rfl,ha,hb',hfc⟩:=hcut;obtain⟨a0,a1,a2,a3,a4,a5,a6,a7,a8,a9⟩:=ten ha;obtain⟨b0,b1,b2',b3,b4,b5,b6,b7,b8,b9⟩:=ten hb';have F3:=hid hfc;have C4:=hid (SI.out _ hfc);clear ha hb' hfc;have q1:=zf7 e.key;have q2:=q1.1;have q3:=q1.2;clear q1;cases hcd:e.cold
   all_goals
    rw[hcd] at a1 b1;go_wp2_with fail;refine C4.out.mono ?_;rintro e4 w4 ⟨rfl,f4⟩;have F4:=hid (F3.out.trans f4);have P4:=hid (HP.out.fr F4.out (by simp));have Q4:=hid (HQ.out.fr F4.out (by simp));clear f4;go_wp2;go_roundg (l.length - (k+1))
    case measure=>omega
    case rel=>exact⟨k+1,rfl,by omega,by go_num,HF.out.trans F4.out,P4.out,Q4.out⟩
  ·obtain rfl:k=l.length:=by omega
   go_wp2;go_ret;exact⟨rfl,HF.out⟩
structure GaI(s t:Sto)(i:Nat)(k:Int):Prop where
 ok:z2t s
 okt:z2t t
 hi:i < s.segs.length
 less:t.segs.length < s.segs.length→k=((s.segs.getD i []).length:Nat)
 len:¬t.segs.length < s.segs.length→t.segs.length=s.segs.length
 again:¬t.segs.length < s.segs.length→z1p t i=(t,0,0)
 sum:¬t.segs.length < s.segs.length→((t.segs.getD i []).length:Int)+k=((s.segs.getD i []).length:Nat)
 all:¬t.segs.length < s.segs.length→∀j:Nat,j < (t.segs.getD i []).length→z1j t.slots i j=true
theorem zls{s:Sto}{n:Int}(h:(z1p s n).2.2≠0):(z1p s n).2.1=0:=by
 unfold z1p at h ⊢;split
 ·rename_i hc;rw[if_pos hc] at h;exact(z62 h).2
 ·rfl
theorem zhf{s:Sto}{n:Int}(h:(z1p s n).2.2=0):∃i:Nat,n=i∧GaI s (z1p s n).1 i (z1p s n).2.1:=by
 have hc:z07 s=0:=by
  by_cases hc:z07 s=0
  ·exact hc
  ·unfold z1p at h;rw[if_neg hc] at h;exact h
 have e:z1p s n=z0z s n:=by unfold z1p;rw[if_pos hc]
 rw[e] at h ⊢
 have hn:0≤n∧n < s.segs.length:=by
  by_cases hn:0≤n∧n < s.segs.length
  ·exact hn
  ·unfold z0z at h;rw[if_neg hn] at h;simp at h
 obtain⟨i,rfl⟩:=Int.eq_ofNat_of_zero_le hn.1;have T:=zge (zfg hc) hn;rw[Int.toNat_natCast] at T;have ok:=zdy (t:=(z0z s i).1) (n:=i) (c:=(z0z s i).2.1) (zfg hc) (by rw[←h]);refine⟨i,rfl,zfg hc,ok.1,by have:=hn.2;omega,T.1,fun q=>(T.2 q).1,fun q=>?_,fun q=>(T.2 q).2.2.1,fun q=>(T.2 q).2.2.2⟩;unfold z1p;rw[if_pos (z3a ok.1)];exact(T.2 q).2.1
theorem zgk{l:List Slt}{n j:Int}{h:Nat}{x:Slt}(hx:l[h]? = some x):z1j (l.take (h+1)) n j=(z1j (l.take h) n j||(x.cold&&(decide (x.seg=n)&&decide (x.rcd=j)))):=by
 unfold z1j;rw[zhj hx,List.any_append];simp
theorem z9y{l:List (List ByteArray)}{i:Nat}(h:i < l.length):l[i]? = some (l.getD i []):=by
 rw[List.getD_eq_getElem?_getD,List.getElem?_eq_getElem h];rfl
theorem z8y(hb:∀W:World,Vars W→Calls prog 6 #[] W fun e w'=>e=.returned (.bool true)∧Fr [] W w')(s:Sto)(v:Value)(n:Int)(w:World)(B:Nat)(hB:B≤w.heap.size)(h:z2h w B v s)(hs:s.Small)(hv:Vars w):
  Calls prog 4 #[v,.int .i64 n] w fun e w'=>e=.returned (.bool true)∧Fr [] w w':=by
 obtain⟨A0,n0,R0,r0,rfl⟩:=h.form;have S0:=hid ((((LC.start hv).sto (h.more hB)).box [.slice A0 s.slots.length n0,.slice R0 s.segs.length r0] 25));have BG:=hid hb;have GA:=hid (fun W v (h:z2h W W.heap.size v s)=>zki s v n W hs h);have GE:=hid (fun(hc:(z1p s n).2.2≠0)=>zls hc);have GS:=hid (fun(hc:(z1p s n).2.2=0)=>zhf hc);have hsl:=hs.sle;clear h hs hv hb;generalize (z1p s n).1=t at *;generalize (z1p s n).2.1=k at *;generalize (z1p s n).2.2=c at *;go_enter Tryz.func4,Tryz.ntmps4;have C1:=hid (BG.out _ S0.out.v);go_wp2_with fail;refine C1.out.mono ?_;rintro e w1 ⟨rfl,f1⟩;have S1:=hid (S0.out.go f1);clear f1 S0 C1 BG;have g:=z2g (S1.out.bl _ (.head _));have g0:=g.1;have g1:=g.2;clear g;have C2:=hid (GA.out _ _ (S1.out.st _ (.head _)));go_wp2_with fail;refine C2.out.mono ?_;rintro e w2 ⟨A2,n2,R2,r2,rfl,o2,f2⟩;have S2:=hid (((S1.out.go f2).sto o2).box [.slice A2 t.slots.length n2,.slice R2 t.segs.length r2] 25);clear o2 f2 S1 C2 g0 g1 GA;by_cases hc:c=0
 rotate_left
 ·have q1:(c != 0)=true:=by simpa using hc
  have q2:=GE.out hc;subst q2;clear GE GS hc;go_wp2;go_ret;exact⟨rfl,S2.out.f⟩
 have GS':=GS.out hc;clear GE GS;subst hc;obtain⟨i,rfl,gi⟩:=GS';have GI:=hid gi;have hi:=gi.hi;clear gi;have g:=z2g (S2.out.bl _ (.tail _ (.head _)));have g0:=g.1;have g1:=g.2;have d:=z2g (S2.out.bl _ (.head _));have d0:=d.1;have d1:=d.2;clear g d;have sv:=S2.out.st _ (.tail _ (.head _));obtain⟨_,_,es,-,hrs⟩:=sv;cases es;obtain⟨bs,os,rfl,-,ms,ms',hats⟩:=hrs.at_ (by omega);obtain⟨ls,hls⟩:∃l,l=s.segs.getD i []:=⟨_,rfl⟩;obtain⟨Ls,cs,ks,-⟩:=hats i ls (by rw[hls];exact z9y hi);have LS:=hid hls;clear hls hats hrs;unfold maxLen at ms';by_cases hlt:t.segs.length < s.segs.length
 ·have q:=GI.out.less hlt;rw[←LS.out] at q;subst q;go_wp2;go_ret;exact⟨rfl,S2.out.f⟩
 have AG:=hid (fun W v (h:z2h W W.heap.size v t)=>(show Calls prog 10 #[v,.int .i64 i] W (GvP t 0 0 W) from by
  have:=zki t v i W (z0n GI.out.okt) h;rw[GI.out.again hlt] at this;exact this))
 have SS:=hid (fun W v u (h:z2h W W.heap.size v t) (k:z2h W W.heap.size u t)=>za9 t v u W _ (z0n GI.out.okt) (Nat.le_refl _) h k);have al:=GI.out.all hlt;have su:=GI.out.sum hlt;have OKR:=hid GI.out.okt.rle;have OKS:=hid GI.out.ok.rle;have hti:i < t.segs.length:=by have:=GI.out.len hlt;omega
 clear GI;have C3:=hid (AG.out _ _ (S2.out.st _ (.head _)));go_wp2_with fail;refine C3.out.mono ?_;rintro e w3 ⟨A3,n3,R3,r3,rfl,o3,f3⟩;have S3:=hid (((S2.out.go f3).sto o3).box [.slice A3 t.slots.length n3,.slice R3 t.segs.length r3] 25);have F3:=hid (f3.alloc (.cells #[.slice A3 t.slots.length n3,.slice R3 t.segs.length r3] 25));clear o3 f3 C3 g0 g1 d0 d1 AG;have ks3:=F3.out.cell ks (by simp);clear ks F3;have g1:=(z2g (S3.out.bl _ (.tail _ (.tail _ (.head _))))).2;have d:=z2g (S3.out.bl _ (.tail _ (.head _)));have d0:=d.1;have d1:=d.2;have b:=z2g (S3.out.bl _ (.head _));have b0:=b.1;have b1:=b.2;clear d b;obtain⟨_,_,et,hsl,hrt⟩:=S3.out.st _ (.tail _ (.head _));cases et;obtain⟨bt,ot,rfl,-,mt,mt',hatt⟩:=hrt.at_ (by omega);obtain⟨lt,hlt'⟩:∃l,l=t.segs.getD i []:=⟨_,rfl⟩;obtain⟨Lt,ct,kt,-⟩:=hatt i lt (by rw[hlt'];exact z9y hti);have HSL:=hid hsl;rw[←hlt'] at al su;rw[←LS.out] at su;have AL:=hid al;have SU:=hid su;clear al su;have SSX:=hid (SS.out _ _ _ ((S3.out.go ((Fr.refl [] _).drew)).st _ (.tail _ (.head _))) ((S3.out.go ((Fr.refl [] _).drew)).st _ (.head _)));have l4:lt.length≤4:=OKR.out lt (by rw[hlt'];exact List.mem_of_getElem? (z9y hti));have s4:ls.length≤4:=OKS.out ls (by rw[LS.out];exact List.mem_of_getElem? (z9y hi));have q9:(IntKind.i64.wrap ((lt.length:Int)+k) != (ls.length:Int))=false:=by rw[SU.out,show IntKind.i64.wrap ((ls.length:Nat):Int)=((ls.length:Nat):Int) from by rw[IntKind.wrap_i64];omega];simp
 have k4:-4≤k∧k≤4:=by have:=SU.out;omega
 unfold maxLen at mt';clear hsl hrt hatt hlt' LS SS;go_upto_region 9 with fail;go_region_held3 (fun wx=>wx.cell? ⟨w.heap.size,1,none⟩=some (.slice (some ⟨bs,os,none⟩) s.segs.length r0)∧wx.cell? ⟨w2.heap.size,0,none⟩=some (.slice A2 t.slots.length n2)∧wx.cell? ⟨w2.heap.size,1,none⟩=some (.slice (some ⟨bt,ot,none⟩) t.segs.length r2)∧wx.cell? ⟨w3.heap.size,0,none⟩=some (.slice A3 t.slots.length n3)∧wx.cell? ⟨w3.heap.size,1,none⟩=some (.slice R3 t.segs.length r3)∧wx.cell? ⟨bs,os+i,none⟩=some (.slice Ls ls.length cs)∧wx.cell? ⟨bt,ot+i,none⟩=some (.slice Lt lt.length ct)) (go_keep) ((go_at_call 13;(refine SSX.out.mono ?_);rintro e4 w4 ⟨rfl,f4⟩;have F4:=hid (z01 f4);clear f4;have ks4:=F4.out.cell ks3 (by simp);have kt4:=F4.out.cell kt (by simp);have g14:=F4.out.cell g1 (by simp);have d14:=F4.out.cell d1 (by simp);have d04:=F4.out.cell d0 (by simp);have b04:=F4.out.cell b0 (by simp);have b14:=F4.out.cell b1 (by simp);clear ks3 kt g1 d1 d0 b0 b1));have F4':=hid (S3.out.f.trans F4.out);have HSL4:=hid (HSL.out.fr F4.out (Nat.le_refl _) (by simp));clear HSL S2 S3 OKR OKS SU F4 g14 b04 b14 ks4;go_wp2;go_loopg [11] lt.length (fun g x wr=>∃(j:Nat),g=lt.length - j∧j≤lt.length∧x=.int .i64 j∧w4=wr)
 case atStart=>exact⟨0,rfl,Nat.zero_le _,rfl,rfl⟩
 case round=>
  obtain⟨j,rfl,hj,rfl,rfl⟩:=hrel;by_cases hjl:j < lt.length
  ·have AJ:=hid (AL.out j hjl);go_wp2;go_loopg [12,13] t.slots.length (fun g mv hv wr=>∃(h:Nat) (b:Bool),g=t.slots.length - h∧h≤t.slots.length∧hv=.int .i64 h∧mv=.bool b∧Hid (b=z1j (t.slots.take h) i j)∧w4=wr)
   case atStart=>exact⟨0,false,rfl,Nat.zero_le _,rfl,rfl,hid rfl,rfl⟩
   case round=>
    obtain⟨h,b,rfl,hh,rfl,rfl,HB,rfl⟩:=hrel;by_cases hhl:h < t.slots.length
    ·obtain⟨sb,so,rfl,-,mq,mq',hatq⟩:=HSL4.out.at_ (by omega);obtain⟨x,hx⟩:∃x,t.slots[h]? = some x:=⟨_,List.getElem?_eq_getElem hhl⟩;obtain⟨_,_,_,_,_,_,kq⟩:=hatq h x hx;have z1:=kq.k1;have z7:=kq.k7;have z8:=kq.k8;have ST:=hid (zgk (n:=(i:Int)) (j:=(j:Int)) hx);unfold maxLen at mq';clear kq hatq hx;cases b with
     | true=>
      have MS:=hid (show(true=z1j (t.slots.take (h+1)) i j) from by rw[ST.out,←HB.out];rfl);clear z1 z7 z8 ST;go_wp2;go_roundg (t.slots.length - (h+1))
      case measure=>omega
      case rel=>exact⟨h+1,_,rfl,by omega,by go_num,rfl,MS,rfl⟩
     | false=>
      cases hcd:x.cold with
      | false=>
       rw[hcd] at z1;have MS:=hid (show(false=z1j (t.slots.take (h+1)) i j) from by rw[ST.out,←HB.out,hcd];rfl);clear ST hcd;go_wp2;go_roundg (t.slots.length - (h+1))
       case measure=>omega
       case rel=>exact⟨h+1,_,rfl,by omega,by go_num,rfl,MS,rfl⟩
      | true=>
       rw[hcd] at z1;by_cases h1:x.seg=(i:Int)
       ·by_cases h2:x.rcd=(j:Int)
        ·have q1:(x.seg==(i:Int))=true:=by simpa using h1
         have q2:(x.rcd==(j:Int))=true:=by simpa using h2
         have MS:=hid (show(true=z1j (t.slots.take (h+1)) i j) from by rw[ST.out,←HB.out,hcd,decide_eq_true h1,decide_eq_true h2];rfl);clear ST hcd h1 h2;go_wp2;go_roundg (t.slots.length - (h+1))
         case measure=>omega
         case rel=>exact⟨h+1,_,rfl,by omega,by go_num,rfl,MS,rfl⟩
        ·have q1:(x.seg==(i:Int))=true:=by simpa using h1
         have q2:(x.rcd==(j:Int))=false:=by simpa using h2
         have MS:=hid (show(false=z1j (t.slots.take (h+1)) i j) from by rw[ST.out,←HB.out,hcd,decide_eq_true h1,decide_eq_false h2];rfl);clear ST hcd h1 h2;go_wp2;go_roundg (t.slots.length - (h+1))
         case measure=>omega
         case rel=>exact⟨h+1,_,rfl,by omega,by go_num,rfl,MS,rfl⟩
       ·have q1:(x.seg==(i:Int))=false:=by simpa using h1
        have MS:=hid (show(false=z1j (t.slots.take (h+1)) i j) from by rw[ST.out,←HB.out,hcd,decide_eq_false h1];rfl);clear ST hcd h1;go_wp2;go_roundg (t.slots.length - (h+1))
        case measure=>omega
        case rel=>exact⟨h+1,_,rfl,by omega,by go_num,rfl,MS,rfl⟩
    ·obtain rfl:h=t.slots.length:=by omega
     have e:=HB.out;rw[List.take_length,AJ.out] at e;subst e;go_wp2;go_roundg (lt.length - (j+1))
     case measure=>omega
     case rel=>exact⟨j+1,rfl,by omega,by go_num,rfl⟩
  ·obtain rfl:j=lt.length:=by omega
   go_wp2;go_ret;exact⟨rfl,F4'.out⟩
end Go.Proofs.YtmkhmejempcimaaGreatDoor
