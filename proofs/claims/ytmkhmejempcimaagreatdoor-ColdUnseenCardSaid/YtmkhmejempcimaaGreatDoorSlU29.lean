/- Contracts; no condition but each theorem's own. -/
import Derived.Test.YtmkhmejempcimaaGreatDoorSlU28
set_option linter.unusedVariables false
set_option linter.unusedSimpArgs false
set_option maxHeartbeats 8000000
set_option maxRecDepth 100000
namespace Go.Proofs.YtmkhmejempcimaaGreatDoor
open Lib (hid)
open Go.Proofs.Tryz (prog)
open Go.RowKit
theorem z1a.setW{w:World}{base o T i:Nat}{v:Value}{l:List Ent}{cs:List Value}(h:z1a w base v l)(hw:Whole w o T cs)(hT:T≠74∧T≠9∧T≠108∧T≠110)(u:Value):z1a (w.setCell ⟨o,i,none⟩ u) base v l:=by
 obtain⟨rs,hl,hi,ho⟩:=h;refine⟨rs,hl,fun j e he=>?_,z0c _ ho (z0g ho hw hT.1)⟩;obtain⟨cs',hcs,A1,c1,A2,c2,A3,c3,rfl,o1,o2,o3⟩:=hi j e he;exact⟨_,hcs,A1,c1,A2,c2,A3,c3,rfl,z0c _ o1 (z0g o1 hw hT.2.1),z0c _ o2 (z0g o2 hw hT.2.2.1),z0c _ o3 (z0g o3 hw hT.2.2.2)⟩
theorem Dr.off{g B0:Nat}{sv:Value}{now:Int}{lv:Value}{l:List ByteArray}{s:List Ent}{w:World}(h:Dr g B0 sv now lv l s w):g∉z1o sv:=by
 intro hm;obtain⟨rs,-,-,ho⟩:=h.e;have hn:=z0g ho h.d (by decide);unfold z1o at hm;split at hm
 ·rename_i k hk;simp at hm;subst hm;exact hn rfl
 ·cases hm
theorem Dr.low{g B0:Nat}{sv:Value}{now:Int}{lv:Value}{l:List ByteArray}{s:List Ent}{w:World}(h:Dr g B0 sv now lv l s w):∀k,k∈g :: z1o sv→B0≤k∧k < w.heap.size:=fun k hk=>by
 obtain⟨rs,-,-,ho⟩:=h.e;rcases List.mem_cons.1 hk with rfl|hk
 ·exact⟨h.gb,h.lt⟩
 ·exact⟨z2o ho hk,zd0 ho k hk⟩
theorem Dr.rowOff{g B0:Nat}{sv:Value}{now:Int}{lv:Value}{l:List ByteArray}{s:List Ent}{w:World}(h:Dr g B0 sv now lv l s w){base T size n:Nat}{v:Value}{xs:List Value}(ho:w.ownsRow base T size v n xs)(h1:122≠T)(h2:T≠74):∀k,v.ownBlock=some k→k∉g :: z1o sv:=fun k hk hm=>by
 obtain⟨rs,-,-,ho2⟩:=h.e;rcases List.mem_cons.1 hm with rfl|hm
 ·exact z0g ho h.d h1 hk
 ·exact z0i ho ho2 h2 k hk hm
theorem Dr.repO{g B0:Nat}{sv:Value}{now:Int}{lv:Value}{l:List ByteArray}{s:List Ent}{w w1:World}(h:Dr g B0 sv now lv l s w){base:Nat}{v:Value}{r:Rep}(hr:z4x w base v r)(k:Fr (g :: z1o sv) w w1):z4x w1 base v r:=by
 obtain⟨h0,u,rfl,ho⟩:=hr;exact⟨h0,u,rfl,z05 ho k (h.rowOff ho (by decide) (by decide))⟩
theorem z1a.set4W{w:World}{base o:Nat}{v:Value}{l:List Ent}{cs:List Value}(h:z1a w base v l)(hw:Whole w o 54 cs)(a b c d:Value):z1a (set4 w o a b c d) base v l:=
 ((((h.setW (i:=0) hw (by decide) a).setW (i:=1) (hw.set_ 0 a) (by decide) b).setW (i:=2) ((hw.set_ 0 a).set_ 1 b) (by decide) c).setW (i:=3) (((hw.set_ 0 a).set_ 1 b).set_ 2 c) (by decide) d)
theorem Dr.set4W{g B0 o:Nat}{sv:Value}{now:Int}{lv:Value}{l:List ByteArray}{s:List Ent}{w:World}{cs:List Value}(h:Dr g B0 sv now lv l s w)(hw:Whole w o 54 cs)(hb:B0≤o)(a b c d:Value):Dr g B0 sv now lv l s (set4 w o a b c d):=by
 have hne:g≠o:=h.d.ne_ hw (by decide);have hf:Fr [o] w (set4 w o a b c d):=((((Fr.refl [o] w).setCell (p:=⟨o,0,none⟩) (.inl (.head _)) a).setCell (p:=⟨o,1,none⟩) (.inl (.head _)) b).setCell (p:=⟨o,2,none⟩) (.inl (.head _)) c).setCell (p:=⟨o,3,none⟩) (.inl (.head _)) d;exact⟨h.d.fr hf (by simpa using hne),h.e.set4W hw _ _ _ _,h.l.fr hf h.bz (fun k hk=>by simp at hk;subst hk;exact hb),h.gb⟩
def PutD(g B0:Nat)(sv:Value)(now:Int)(lv:Value)(l:List ByteArray)(s':List Ent)(c:Int)(w:World)(e:Ending)(w':World):Prop:=
 e=.returned (.int .i64 c)∧Fr (g :: z1o sv) w w'∧∃sv',Whole w' g 122 [sv',.int .i64 now,lv]∧(c=0→Dr g B0 sv' now lv l s' w')
theorem ze3{S:List Nat}{g:Nat}{a b:World}(h:Fr S a b):Fr (g :: S) a b:=h.more (fun k hk=>.inl (.tail _ hk))
theorem zkc(g B0:Nat)(sv:Value)(now:Int)(lv:Value)(l:List ByteArray)(s:List Ent)(k:ByteArray)(x:Itm)(xv:Value)(u:Int)(w:World)(hr:rises (ltK Ent.key) s=true)(hl:s.length≤1000)(hsx:x.Small)(h:Dr g B0 sv now lv l s w)(hx:z0l w B0 xv x):
  Calls prog 128 #[.pointer (some ⟨g,0,none⟩),.string k,xv,.int .i64 u] w (PutD g B0 sv now lv l (zjc s now k x u) (z7k s now k x u) w):=by
 have RW:=hid (fun W (hW:Fr [] w W)=>zco s sv now k x xv u B0 W hr hl hsx (h.e.fr hW) (hx.go hW) (Nat.le_trans h.bz hW.size));obtain⟨X1,x1,X2,x2,X3,x3,rfl⟩:=hx.form;have F0:=hid ((Fr.refl [] w).alloc (.cells #[.int .i64 x.kind,.string x.text,.slice X1 x.list.length x1,.slice X2 x.pairs.length x2,.slice X3 x.scores.length x3] 46));have W0:=hid (Whole.new w 46 [.int .i64 x.kind,.string x.text,.slice X1 x.list.length x1,.slice X2 x.pairs.length x2,.slice X3 x.scores.length x3]);have H:=hid h;have hoff:=h.off;have hlow:=h.low;have hwz:w.heap.size∉z1o sv:=fun hm=>by have:=(hlow _ (.tail _ hm)).2;omega
 have OFF:=hid hoff;have OFZ:=hid hwz;have hlt:=h.lt;have hbz:=h.bz;obtain⟨SA,sc,rfl⟩:=h.sform;obtain⟨d0,d1,d2⟩:=(h.go F0.out).three;obtain⟨a0,a1,a2,a3,a4⟩:=five W0.out;clear d2 h hx hr hsx hoff hlow hwz;generalize zjc s now k x u=s' at *;generalize hpc:z7k s now k x u=c at *;clear hpc;by_cases hc:c=0
 ·subst hc;go_enter Tryz.func128,Tryz.ntmps128;go_wp2;go_region_held3 (fun wx=>wx.cell? ⟨g,0,none⟩=some (.slice SA s.length sc)∧wx.cell? ⟨g,1,none⟩=some (.int .i64 now)∧wx.cell? ⟨w.heap.size,0,none⟩=some (.int .i64 x.kind)∧wx.cell? ⟨w.heap.size,1,none⟩=some (.string x.text)∧wx.cell? ⟨w.heap.size,2,none⟩=some (.slice X1 x.list.length x1)∧wx.cell? ⟨w.heap.size,3,none⟩=some (.slice X2 x.pairs.length x2)∧wx.cell? ⟨w.heap.size,4,none⟩=some (.slice X3 x.scores.length x3)) (go_keep) ((go_at_call 182;refine(RW.out _ F0.out.drew).mono ?_;rintro e1 w1 ⟨uv,rfl,he,f1⟩;have F1:=hid (F0.out.up.trans f1.dr);have W1:=hid (W0.out.fr f1.dr OFZ.out);have W2:=hid ((H.out.go F0.out).d.fr f1.dr OFF.out);obtain⟨UA,uc,rfl⟩:=he.form;have HE:=hid he;clear he f1 d0 d1 a0 a1 a2 a3 a4;obtain⟨a0,a1,a2,a3,a4⟩:=five W1.out;have d0:=W2.out.cell 0;have d1:=W2.out.cell 1));have D1:=W2.out;have hlt2:=D1.lt;obtain⟨y0,y1,y2⟩:w1.cell? ⟨g,0,none⟩=some (.slice SA s.length sc)∧w1.cell? ⟨g,1,none⟩=some (.int .i64 now)∧w1.cell? ⟨g,2,none⟩=some lv:=⟨D1.cell 0,D1.cell 1,D1.cell 2⟩;have y3:=D1.frozen 0;clear d0 d1 a0 a1 a2 a3 a4;go_wp2;go_ret;refine⟨rfl,(ze3 F1.out).setCell (p:=⟨g,0,none⟩) (.inl (.head _)) _,_,D1.set_ 0 _,fun _=>⟨D1.set_ 0 _,HE.out.setW D1 (by decide) _,?_,H.out.gb⟩⟩;exact H.out.l.fr ((ze3 F1.out).setCell (p:=⟨g,0,none⟩) (.inl (.head _)) _) hbz (fun j hj=>(H.out.low j hj).1)
 ·have q1:(c==0)=false:=by simpa using hc
  have HC:=hid hc;clear hc;go_enter Tryz.func128,Tryz.ntmps128;go_wp2;go_region_held3 (fun wx=>wx.cell? ⟨g,0,none⟩=some (.slice SA s.length sc)∧wx.cell? ⟨g,1,none⟩=some (.int .i64 now)∧wx.cell? ⟨w.heap.size,0,none⟩=some (.int .i64 x.kind)∧wx.cell? ⟨w.heap.size,1,none⟩=some (.string x.text)∧wx.cell? ⟨w.heap.size,2,none⟩=some (.slice X1 x.list.length x1)∧wx.cell? ⟨w.heap.size,3,none⟩=some (.slice X2 x.pairs.length x2)∧wx.cell? ⟨w.heap.size,4,none⟩=some (.slice X3 x.scores.length x3)) (go_keep) ((go_at_call 182;refine(RW.out _ F0.out.drew).mono ?_;rintro e1 w1 ⟨uv,rfl,he,f1⟩;have F1:=hid (F0.out.up.trans f1.dr);have W1:=hid (W0.out.fr f1.dr OFZ.out);have W2:=hid ((H.out.go F0.out).d.fr f1.dr OFF.out);obtain⟨UA,uc,rfl⟩:=he.form;have HE:=hid he;clear he f1 d0 d1 a0 a1 a2 a3 a4;obtain⟨a0,a1,a2,a3,a4⟩:=five W1.out;have d0:=W2.out.cell 0;have d1:=W2.out.cell 1));clear d0 d1 a0 a1 a2 a3 a4;go_wp2;go_ret;exact⟨rfl,ze3 F1.out,_,W2.out,fun h=>absurd h HC.out⟩
theorem zi6(g B0:Nat)(sv:Value)(now:Int)(lv:Value)(l:List ByteArray)(s:List Ent)(x:Itm)(xv:Value)(w:World)(hr:rises (ltK Ent.key) s=true)(hl:s.length≤1000)(hn:0 < l.length)(hsx:x.Small)(h:Dr g B0 sv now lv l s w)(hx:z0l w B0 xv x):
  Calls prog 146 #[.pointer (some ⟨g,0,none⟩),xv] w (PutD g B0 sv now lv l (zjc s now (wd l 0) x (z0q s now (wd l 0)).til) (z7k s now (wd l 0) x (z0q s now (wd l 0)).til) w):=by
 have LK:=hid (fun W (hW:Fr [] w W)=>z69 s sv now (wd l 0) W B0 hr (by omega) (h.e.fr hW));have PT:=hid (fun W (hW:Fr [] w W)=>zkc g B0 sv now lv l s (wd l 0) x xv (z0q s now (wd l 0)).til W hr hl hsx (h.go hW) (hx.go hW));obtain⟨X1,x1,X2,x2,X3,x3,rfl⟩:=hx.form;have F0:=hid ((Fr.refl [] w).alloc (.cells #[.int .i64 x.kind,.string x.text,.slice X1 x.list.length x1,.slice X2 x.pairs.length x2,.slice X3 x.scores.length x3] 46));have W0:=hid (Whole.new w 46 [.int .i64 x.kind,.string x.text,.slice X1 x.list.length x1,.slice X2 x.pairs.length x2,.slice X3 x.scores.length x3]);have F1:=hid (F0.out.alloc (.cells #[.string ⟨#[]⟩,.int .i64 0,.string ⟨#[]⟩,.slice none 0 0,.slice none 0 0,.slice none 0 0,.int .i64 0] 74));have V1:=hid (z73 w (.cells #[.int .i64 x.kind,.string x.text,.slice X1 x.list.length x1,.slice X2 x.pairs.length x2,.slice X3 x.scores.length x3] 46) 74 [.string ⟨#[]⟩,.int .i64 0,.string ⟨#[]⟩,.slice none 0 0,.slice none 0 0,.slice none 0 0,.int .i64 0]);have H:=hid h;have hlt:=h.lt;have hbz:=h.bz;obtain⟨SA,sc,rfl⟩:=h.sform;obtain⟨LA,lc,rfl⟩:=h.lform;obtain⟨b,off,rfl,hb,hc,hm,hat⟩:=h.word hn;have hw0:=hat 0 hn;rw[Nat.add_zero] at hw0;have HW0:=hid hw0;have DG:=hid (fun W (hW:Fr [] w W)=>(h.go hW).three);unfold maxLen at hm;clear h hx hr hsx hat hw0;have hn1:¬g=w.heap.size+1:=by omega
 have hn2:¬w.heap.size+1=g:=by omega
 have hn3:¬b=w.heap.size+1:=by omega
 have hn4:¬w.heap.size+1=b:=by omega
 have ix1:(0:Int) < (l.length:Int):=by omega
 generalize zjc s now (wd l 0) x (z0q s now (wd l 0)).til=s' at *;generalize hpc:z7k s now (wd l 0) x (z0q s now (wd l 0)).til=c at *;clear hpc;generalize z0q s now (wd l 0)=y at *;generalize zag s now (wd l 0)=bb at *;generalize wd l 0=k at *;obtain⟨d0,d1,d2⟩:=DG.out _ F0.out;obtain⟨d3,d4,d5⟩:=DG.out _ F1.out;have d6:=F0.out.cell HW0.out (by simp);have d7:=F1.out.cell HW0.out (by simp);go_enter Tryz.func146,Tryz.ntmps146;go_upto_region 1 with fail;go_cut [5,6] (fun pb _ wx=>zk3 B0 y (w.alloc (.cells #[.int .i64 x.kind,.string x.text,.slice X1 x.list.length x1,.slice X2 x.pairs.length x2,.slice X3 x.scores.length x3] 46)) pb wx)
 case first=>
  go_region_held3 (fun wx=>wx.cell? ⟨g,0,none⟩=some (.slice SA s.length sc)∧wx.cell? ⟨g,1,none⟩=some (.int .i64 now)∧wx.cell? ⟨g,2,none⟩=some (.slice (some ⟨b,off,none⟩) l.length lc)∧wx.cell? ⟨b,off,none⟩=some (.string k)) (go_keep) ((go_at_call 136;first|(refine(LK.out _ F0.out.drew).mono ?_;rintro e1 w1 ⟨A1,c1,A2,c2,A3,c3,rfl,hc,f1⟩;have F2:=hid (z01 f1);have F3:=hid (F0.out.trans F2.out);have HC:=hid hc;obtain⟨z0,z1,z2⟩:=DG.out _ F3.out;have z3:=F3.out.cell HW0.out (by simp);clear f1 hc)|(refine(LK.out _ F1.out.drew).mono ?_;rintro e1 w1 ⟨A1,c1,A2,c2,A3,c3,rfl,hc,f1⟩;have F2:=hid (zaf (z01 f1));have F3:=hid (F1.out.trans (z01 f1));have HC:=hid hc;have V2:=hid (V1.out.f0 (z01 f1));obtain⟨z0,z1,z2⟩:=DG.out _ F3.out;have z3:=F3.out.cell HW0.out (by simp);have y7:=seven V2.out;have z7:=z9m V2.out;clear f1 hc)))
  all_goals
   go_wp2;go_meet
   case rel=>first|with_reducible exact zk3.new HC.out F2.out|exact zk3.put HC.out F2.out (by simp) V2.out
 clear d0 d1 d2 d3 d4 d5 d6 d7;obtain⟨gb,A1,c1,A2,c2,A3,c3,rfl,hgb,hw,hc,hf⟩:=hcut;have F2:=hid (F0.out.trans hf);have VB:=hid hw;have W2:=hid (W0.out.f0 hf);have hgb2:w.heap.size < gb:=by simp at hgb;omega
 clear hf hw hc hgb;obtain⟨d0,d1,d2⟩:=DG.out _ F2.out;have d3:=F2.out.cell HW0.out (by simp);obtain⟨a0,a1,a2,a3,a4⟩:=five W2.out;have a5:=VB.out.cell 6;go_wp2;go_region_held3 (fun wx=>wx.cell? ⟨g,2,none⟩=some (.slice (some ⟨b,off,none⟩) l.length lc)∧wx.cell? ⟨b,off,none⟩=some (.string k)∧wx.cell? ⟨gb,6,none⟩=some (.int .i64 y.til)∧wx.cell? ⟨w.heap.size,0,none⟩=some (.int .i64 x.kind)∧wx.cell? ⟨w.heap.size,1,none⟩=some (.string x.text)∧wx.cell? ⟨w.heap.size,2,none⟩=some (.slice X1 x.list.length x1)∧wx.cell? ⟨w.heap.size,3,none⟩=some (.slice X2 x.pairs.length x2)∧wx.cell? ⟨w.heap.size,4,none⟩=some (.slice X3 x.scores.length x3)) (go_keep) ((go_at_call 128;refine(PT.out _ F2.out.drew).mono ?_;rintro e1 w1 ⟨rfl,f1,sv',hw',hd⟩;have N1:w.heap.size∉g :: z1o (.slice SA s.length sc):=fun hm=>(by have:=(H.out.low _ hm).2;omega);have N2:gb∉g :: z1o (.slice SA s.length sc):=fun hm=>(by have:=(H.out.low _ hm).2;omega);have N3:b∉g :: z1o (.slice SA s.length sc):=fun hm=>(by have:=(H.out.low _ hm).1;omega);have W3:=hid (W2.out.fr f1.dr N1);have VB3:=hid (VB.out.fr f1.dr N2);have G3:=hid hw';have HD:=hid hd;have FT:=hid (F2.out.up.trans f1.dr);have e3:=f1.dr.cell d3 N3;clear f1 hw' hd N1 N2 N3 d0 d1 d2 d3 a0 a1 a2 a3 a4 a5;obtain⟨a0,a1,a2,a3,a4⟩:=five W3.out;have a5:=VB3.out.cell 6;have d2:=G3.out.cell 2));go_wp2;go_ret;exact⟨rfl,FT.out,sv',G3.out,HD.out⟩
def ChD(g B0 bb:Nat)(sv:Value)(now:Int)(lv:Value)(l:List ByteArray)(p:List Ent×Rep)(w:World)(e:Ending)(w':World):Prop:=
 ∃u,e=.returned u∧z4x w' bb u p.2∧Fr (g :: z1o sv) w w'∧(p.2.kind≠2→∃sv',Dr g B0 sv' now lv l p.1 w')
theorem zdv(g B0 bb:Nat)(sv:Value)(now:Int)(lv:Value)(l:List ByteArray)(s:List Ent)(x:Itm)(xv:Value)(r:Rep)(rv:Value)(c:Int)(w:World)(hr:rises (ltK Ent.key) s=true)(hl:s.length≤1000)(hn:0 < l.length)(hsx:x.Small)(h:Dr g B0 sv now lv l s w)(hx:z0l w B0 xv x)(hrp:z4x w bb rv r):
  Calls prog 131 #[.pointer (some ⟨g,0,none⟩),xv,rv,.int .i64 c] w (ChD g B0 bb sv now lv l (fin s now (wd l 0) x (z0q s now (wd l 0)).til true false c r) w):=by
 have KP:=hid (fun W (hW:Fr [] w W)=>zi6 g B0 sv now lv l s x xv W hr hl hn hsx (h.go hW) (hx.go hW));have OR:=hid (fun W c (hq:z4x W bb rv r)=>zoz r rv c false bb W hq);have HR:=hid hrp;obtain⟨X1,x1,X2,x2,X3,x3,rfl⟩:=hx.form;obtain⟨R,rc,rfl⟩:=hrp.form;have F0:=hid ((((Fr.refl [] w).alloc (.cells #[.int .i64 x.kind,.string x.text,.slice X1 x.list.length x1,.slice X2 x.pairs.length x2,.slice X3 x.scores.length x3] 46)).alloc (.cells #[.int .i64 r.kind,.string r.text,.int .i64 r.n,.slice R r.list.length rc] 54)).alloc (.cells #[.int .i64 0,.string ⟨#[]⟩,.int .i64 0,.slice none 0 0] 54));have W0:=hid (Whole.alloc (Whole.alloc (Whole.new w 46 [.int .i64 x.kind,.string x.text,.slice X1 x.list.length x1,.slice X2 x.pairs.length x2,.slice X3 x.scores.length x3]) (.cells #[.int .i64 r.kind,.string r.text,.int .i64 r.n,.slice R r.list.length rc] 54)) (.cells #[.int .i64 0,.string ⟨#[]⟩,.int .i64 0,.slice none 0 0] 54));have R0:=hid (Whole.alloc (z73 w (.cells #[.int .i64 x.kind,.string x.text,.slice X1 x.list.length x1,.slice X2 x.pairs.length x2,.slice X3 x.scores.length x3] 46) 54 [.int .i64 r.kind,.string r.text,.int .i64 r.n,.slice R r.list.length rc]) (.cells #[.int .i64 0,.string ⟨#[]⟩,.int .i64 0,.slice none 0 0] 54))
 have Q0:=hid (show Whole (((w.alloc (.cells #[.int .i64 x.kind,.string x.text,.slice X1 x.list.length x1,.slice X2 x.pairs.length x2,.slice X3 x.scores.length x3] 46)).alloc (.cells #[.int .i64 r.kind,.string r.text,.int .i64 r.n,.slice R r.list.length rc] 54)).alloc (.cells #[.int .i64 0,.string ⟨#[]⟩,.int .i64 0,.slice none 0 0] 54)) (w.heap.size+1+1) 54 [.int .i64 0,.string ⟨#[]⟩,.int .i64 0,.slice none 0 0] from by
  have:=z73 (w.alloc (.cells #[.int .i64 x.kind,.string x.text,.slice X1 x.list.length x1,.slice X2 x.pairs.length x2,.slice X3 x.scores.length x3] 46)) (.cells #[.int .i64 r.kind,.string r.text,.int .i64 r.n,.slice R r.list.length rc] 54) 54 [.int .i64 0,.string ⟨#[]⟩,.int .i64 0,.slice none 0 0];rwa[show(w.alloc (.cells #[.int .i64 x.kind,.string x.text,.slice X1 x.list.length x1,.slice X2 x.pairs.length x2,.slice X3 x.scores.length x3] 46)).heap.size=w.heap.size+1 from by simp] at this)
 have H:=hid h;have hlt:=h.lt;have hbz:=h.bz
 have EF:=hid (show fin s now (wd l 0) x (z0q s now (wd l 0)).til true false c r=if c=0 then (if z7k s now (wd l 0) x (z0q s now (wd l 0)).til=0 then (zjc s now (wd l 0) x (z0q s now (wd l 0)).til,r) else (s,zh9 (z7k s now (wd l 0) x (z0q s now (wd l 0)).til))) else (s,zh9 c) from by
  unfold fin;rw[if_pos rfl];congr 1;exact if_neg (fun h=>by cases h.2))
 clear h hx hrp hr hsx;rw[EF.out];clear EF;generalize zjc s now (wd l 0) x (z0q s now (wd l 0)).til=s' at *;generalize hpc:z7k s now (wd l 0) x (z0q s now (wd l 0)).til=pc at *;clear hpc;by_cases hc:c=0
 ·subst hc;rw[if_pos rfl];by_cases hp:pc=0
  ·subst hp;rw[if_pos rfl];go_enter Tryz.func131,Tryz.ntmps131;obtain⟨a0,a1,a2,a3,a4⟩:=five W0.out;go_wp2_with fail;refine(KP.out _ F0.out).mono ?_;rintro e1 w1 ⟨rfl,f1,sv',hw',hd⟩;have R1:=hid (R0.out.fr f1 (fun hm=>by have:=(H.out.low _ hm).2;omega));have Q1:=hid (Q0.out.fr f1 (fun hm=>by have:=(H.out.low _ hm).2;omega));have HRQ:=hid (((H.out.go F0.out).repO (HR.out.fr F0.out) f1));have FT:=hid (F0.out.up.trans f1);have HD:=hid hd;clear f1 hw' hd a0 a1 a2 a3 a4;obtain⟨r0,r1,r2,r3⟩:=four R1.out;go_wp2_with fail;have EO:=hid (show orV (.agg #[.int .i64 r.kind,.string r.text,.int .i64 r.n,.slice R r.list.length rc]) 0 false=.agg #[.int .i64 r.kind,.string r.text,.int .i64 r.n,.slice R r.list.length rc] from rfl);refine(OR.out _ _ HRQ.out).mono ?_;rintro e2 w2 ⟨rfl,f2⟩;rw[EO.out];have Q2:=hid (Q1.out.f0 f2);have F2:=hid f2;clear f2 r0 r1 r2 r3;obtain⟨y0,y1,y2,y3⟩:=four Q2.out;obtain⟨z0,z1,z2,z3⟩:=z5s Q2.out;go_wp2;refine bodyPost_ret (v:=.agg #[.int .i64 r.kind,.string r.text,.int .i64 r.n,.slice R r.list.length rc]) (by simp[results,Tryz.results131,go_sem,y0,y1,y2,y3]) rfl ?_;have FF:=z3p (FT.out.trans F2.out.up) (show w.heap.size≤w.heap.size+1+1 by omega) (.int .i64 r.kind) (.string r.text) (.int .i64 r.n) (.slice R r.list.length rc);exact⟨_,rfl,H.out.repO HR.out FF,FF,fun _=>⟨sv',((HD.out (by simp)).go F2.out).set4W Q2.out (by omega) _ _ _ _⟩⟩
  ·rw[if_neg hp];have EO:=hid (show orV (.agg #[.int .i64 r.kind,.string r.text,.int .i64 r.n,.slice R r.list.length rc]) pc false=.agg #[.int .i64 2,.string ⟨#[]⟩,.int .i64 pc,.slice none 0 0] from by unfold orV;rw[if_neg hp,if_neg (fun h=>by cases h.2)]);clear hp;go_enter Tryz.func131,Tryz.ntmps131;obtain⟨a0,a1,a2,a3,a4⟩:=five W0.out;go_wp2_with fail;refine(KP.out _ F0.out).mono ?_;rintro e1 w1 ⟨rfl,f1,sv',hw',hd⟩;have R1:=hid (R0.out.fr f1 (fun hm=>by have:=(H.out.low _ hm).2;omega));have Q1:=hid (Q0.out.fr f1 (fun hm=>by have:=(H.out.low _ hm).2;omega));have HRQ:=hid (((H.out.go F0.out).repO (HR.out.fr F0.out) f1));have FT:=hid (F0.out.up.trans f1);have HD:=hid hd;clear f1 hw' hd a0 a1 a2 a3 a4;obtain⟨r0,r1,r2,r3⟩:=four R1.out;go_wp2_with fail;refine(OR.out _ _ HRQ.out).mono ?_;rintro e2 w2 ⟨rfl,f2⟩;rw[EO.out];have Q2:=hid (Q1.out.f0 f2);have F2:=hid f2;clear f2 r0 r1 r2 r3;obtain⟨y0,y1,y2,y3⟩:=four Q2.out;obtain⟨z0,z1,z2,z3⟩:=z5s Q2.out;go_wp2;refine bodyPost_ret (v:=.agg #[.int .i64 2,.string ⟨#[]⟩,.int .i64 pc,.slice none 0 0]) (by simp[results,Tryz.results131,go_sem,y0,y1,y2,y3]) rfl ?_;exact⟨_,rfl,z4x.bare _ _ _ _ _,z3p (FT.out.trans F2.out.up) (show w.heap.size≤w.heap.size+1+1 by omega) _ _ _ _,fun h=>absurd rfl h⟩
 ·have q0:(c==0)=false:=by simpa using hc
  have EO:=hid (show orV (.agg #[.int .i64 r.kind,.string r.text,.int .i64 r.n,.slice R r.list.length rc]) c false=.agg #[.int .i64 2,.string ⟨#[]⟩,.int .i64 c,.slice none 0 0] from by unfold orV;rw[if_neg hc,if_neg (fun h=>by cases h.2)]);rw[if_neg hc];clear hc;go_enter Tryz.func131,Tryz.ntmps131;obtain⟨r0,r1,r2,r3⟩:=four R0.out;go_wp2_with fail;refine(OR.out _ _ (HR.out.fr F0.out)).mono ?_;rintro e2 w2 ⟨rfl,f2⟩;rw[EO.out];have Q2:=hid (Q0.out.f0 f2);have F2:=hid (F0.out.trans f2);clear f2 r0 r1 r2 r3;obtain⟨y0,y1,y2,y3⟩:=four Q2.out;obtain⟨z0,z1,z2,z3⟩:=z5s Q2.out;go_wp2;refine bodyPost_ret (v:=.agg #[.int .i64 2,.string ⟨#[]⟩,.int .i64 c,.slice none 0 0]) (by simp[results,Tryz.results131,go_sem,y0,y1,y2,y3]) rfl ?_;exact⟨_,rfl,z4x.bare _ _ _ _ _,(z3p F2.out (show w.heap.size≤w.heap.size+1+1 by omega) _ _ _ _).up,fun h=>absurd rfl h⟩
theorem ChD.fin4{g B0:Nat}{sv:Value}{now:Int}{lv:Value}{l:List ByteArray}{s:List Ent}{r:Rep}{w w4:World}{A:Option Addr}{k:Nat}{cs:List Value}(hc:z4x w4 (w.heap.size+1) (.agg #[.int .i64 r.kind,.string r.text,.int .i64 r.n,.slice A r.list.length k]) r)(hf:Fr (g :: z1o sv) w w4)(hq:Whole w4 w.heap.size 54 cs)(hB:B0≤w.heap.size)(hd:r.kind≠2→∃sv',Dr g B0 sv' now lv l s w4):
  ChD g B0 B0 sv now lv l (s,r) w (.returned (.agg #[.int .i64 r.kind,.string r.text,.int .i64 r.n,.slice A r.list.length k])) (set4 w4 w.heap.size (.int .i64 r.kind) (.string r.text) (.int .i64 r.n) (.slice A r.list.length k)):=
 ⟨_,rfl,(hc.set4 (Nat.lt_succ_self _) _ _ _ _).base (by omega),z3p hf (Nat.le_refl _) _ _ _ _,fun h=>(hd h).imp fun _ k=>k.set4W hq hB _ _ _ _⟩
structure Cw(g B0:Nat)(sv:Value)(now:Int)(lv:Value)(l:List ByteArray)(s:List Ent)(gx:Nat)(cx:List Value)(x:Itm)(w wr:World):Prop where
 q:Whole wr w.heap.size 54 [.int .i64 0,.string ⟨#[]⟩,.int .i64 0,.slice none 0 0]
 b:Whole wr gx 46 cx
 i:z0l wr B0 (.agg cx.toArray) x
 d:Dr g B0 sv now lv l s wr
 f:Fr [] w wr
 gx:w.heap.size < gx
section
variable {g B0 gx:Nat} {sv:Value} {now:Int} {lv:Value} {l:List ByteArray} {s:List Ent} {cx:List Value} {x:Itm} {w wr w1:World}
theorem Cw.go(h:Cw g B0 sv now lv l s gx cx x w wr)(k:Fr [] wr w1):Cw g B0 sv now lv l s gx cx x w w1:=
 ⟨h.q.f0 k,h.b.f0 k,h.i.go k,h.d.go k,h.f.trans k,h.gx⟩
theorem Cw.drew(h:Cw g B0 sv now lv l s gx cx x w wr):Cw g B0 sv now lv l s gx cx x w wr.drew:=h.go (Fr.refl [] _).drew
end
def zcn(m:Nat)(ys:List Value)(base:Nat)(v:Value)(w:World)(e:Ending)(w':World):Prop:=
 ∃v',e=.returned v'∧w'.ownsRow base 41 1 v' m ys∧w.grownBy w' v.ownBlock∧v'.ownBlock=v.ownBlock
theorem zoj:∀w,(zeroValue 41).run prog w=.ok (.slice none 0 0) w:=fun w=>by kernel_rfl
theorem zih(n i j:Nat)(xs:List Value)(base:Nat)(v:Value)(w:World)(hn:n≤1000000)(hij:i < j)(hj:j≤n)(h:w.ownsRow base 41 1 v n xs)(h1:∀u∈xs,u.oneCell'=true):
  Calls prog 49 #[v,.int .i64 i,.int .i64 j] w (zcn (i+(n - j)) (xs.take (i * 1)++xs.drop (j * 1)) base v w):=by
 obtain⟨i0,hi,hz0,hz1,hz2⟩:=info_parts z9t;obtain⟨A,c,rfl,hA,hc,hm⟩:=z02 h;rcases hA with rfl|⟨g,rfl⟩
 ·exfalso;rcases h.2 with⟨_,h0⟩|⟨g',cap',cur,h',_⟩
  ·omega
  ·cases h'
 obtain⟨cur0,w0,l0,t0,hb0,_,_,hxl⟩:=z1i h;have hdl:(xs.drop (j * 1)).length=(n - j) * 1:=by rw[List.length_drop,hxl];omega
 obtain⟨zs,hzs⟩:∃zs,zs=(Builtin.zeroCells (Value.cells (.slice none 0 0)) (n - (i+(n - j)))).toList:=⟨_,rfl⟩;have hzl:zs.length=(j - i) * 1:=by rw[hzs];simp[Builtin.zeroCells,Value.cells];omega
 obtain⟨cur1,w1,l1,o2⟩:=zct (w:=w.drew) h hij hj hzl
 obtain⟨A,hA,hsrc⟩:∃A:Addr,(if c=j then (some ⟨g,0,none⟩:Option Addr) else some ⟨g,j,none⟩)=some A∧Hid (∀t u,(xs.drop (j * 1))[t]? = some u→w.drew.cell? (A.add t)=some u):=by
  by_cases hcj:c=j
  ·refine⟨⟨g,0,none⟩,by simp[hcj],fun t u hu=>?_⟩;have h0:(xs.drop (j * 1)).length=0:=by rw[hdl];omega
   rw[List.length_eq_zero_iff.1 h0] at hu;simp at hu
  ·refine⟨⟨g,j * 1,none⟩,by simp[hcj],fun t u hu=>?_⟩;rw[List.getElem?_drop] at hu;have hlt:=(List.getElem?_eq_some_iff.1 hu).1;have:=(h.cellAt (j * 1+t) (by omega)).trans hu;unfold Addr.add;split
   ·have e:t=0:=by assumption
    subst e;exact this
   ·exact this
 have s1:=hid hdl;have s2:=hid (show ∀u∈xs.drop (j * 1),u.oneCell'=true from fun u hu=>h1 u (List.mem_of_mem_drop hu));have hcn:(i+(n - j)) * 1≤c * 1:=Nat.mul_le_mul_right _ (by omega)
 have s3:=hid (show ∀t,t < (xs.drop (j * 1)).length→(w.drew.cell? ⟨g,0+i * 1+t,none⟩).isSome=true∧w.drew.frozen? ⟨g,0+i * 1+t,none⟩=false from fun t ht=>by
  rw[Nat.zero_add];exact z12 w0 (o:=i * 1) (m:=(n - j) * 1) (by rw[l0];omega) t (by omega))
 obtain⟨W1,hW1⟩:∃W1,W1=w.drew.setCells g (0+i * 1) (xs.drop (j * 1)):=⟨_,rfl⟩
 have hcl:∀ty,(Builtin.clear_ #[23] ty #[.slice (some ⟨g,(i+(n - j)),none⟩) (n - (i+(n - j))) (c - (i+(n - j)))]).run prog W1=.ok (.tuple #[]) (W1.setCells g ((i+(n - j))) zs):=fun ty=>by
  have:=z4d (P:=prog) W1 23 41 ty (.slice none 0 0) Tryz.underlying23 zoj (by intro u hu;simp[Value.cells] at hu;rcases hu with rfl|rfl <;> rfl) g ((i+(n - j)) * 1) (n - (i+(n - j))) (c - (i+(n - j))) (by omega) (fun t ht=>by
   rw[hW1,Nat.zero_add];exact z12 (w:=(w.drew.setCells g (i * 1) (xs.drop (j * 1)))) w1 (o:=(i+(n - j)) * 1) (m:=(n - (i+(n - j))) * 1) (by rw[l1];omega) t (by simpa[Value.cells] using ht))
  rw[←hzs,show(i+(n - j)) * 1=(i+(n - j)) by omega] at this;exact this
 rw[show(i+(n - j)) * 1=(i+(n - j)) by omega] at o2;have O2:=hid o2;have HW:=hid hW1;have hic:i≤c:=by omega
 have hjc:j≤c:=by omega
 have hlt:i < j:=hij;unfold maxLen at hm;clear h h1 cur0 w0 l0 t0 hb0 hxl hdl hzs hzl w1 l1 o2 cur1 hW1 hcn;go_enter Tryz.func49,Tryz.ntmps49;go_wp2_with fail
 go_region_law (refine step_append_room rfl (.tmp 22) (.tmp 25) 23 rfl 41 i0 1 Tryz.underlying23 hi hz1 g 0 i c (by simp[Act.eval,Act.put]) A (n - j) (c - j) (xs.drop (j * 1)) (by simp[Act.eval,Act.put]) s1.out hsrc.out s2.out (by omega) s3.out ?_;rw[←HW.out])
 go_wp2;go_ret;have e1:=HW.out;rw[Nat.zero_add] at e1;subst e1;exact⟨_,rfl,O2.out,z2b ((z0e _ _ _).trans (z0e _ _ _)),rfl⟩
def zbs(r:Rep):Prop:=∀x∈r.list,x.kind≠0
theorem z5a{w:World}{base o:Nat}{v:Value}{r:Rep}(h:z4x w base v r)(hg:zbs r)(hq:Whole w o 54 [.int .i64 0,.string ⟨#[]⟩,.int .i64 0,.slice none 0 0])(a b c d:Value):z4x (set4 w o a b c d) base v r:=by
 obtain⟨h0,u,rfl,ho⟩:=h;refine⟨h0,u,rfl,?_⟩;have hq0:=hq;have hf:Fr [o] w (set4 w o a b c d):=((((Fr.refl [o] w).setCell (p:=⟨o,0,none⟩) (.inl (.head _)) a).setCell (p:=⟨o,1,none⟩) (.inl (.head _)) b).setCell (p:=⟨o,2,none⟩) (.inl (.head _)) c).setCell (p:=⟨o,3,none⟩) (.inl (.head _)) d;by_cases hne:u.ownBlock=some o
 ·refine⟨ho.1,?_⟩;rcases ho.2 with hz|⟨g,cap,cur,rfl,hb,hgg,hn,hm,hs,hx⟩
  ·exact .inl hz
  ·have:g=o:=by simpa[Value.ownBlock] using hne
   subst this;unfold Whole at hq;rw[hq] at hgg;injection hgg with hgg
   injection hgg with hgg
   subst hgg;have hc1:cap=1:=by simp at hs;omega
   subst hc1;rcases hl:r.list with _|⟨x,l⟩
   ·rw[hl] at hx hn;have hq2:Whole (set4 w g a b c d) g 54 [a,b,c,d]:=((hq0.set_ 0 a).set_ 1 b).set_ 2 c |>.set_ 3 d
    exact .inr ⟨g,1,_,rfl,hb,hq2,by simp,hm,by simp,by simp[z9w]⟩
   ·exfalso;rw[hl] at hx;have hl0:l=[]:=by rw[hl] at hn;simpa using hn
    subst hl0;have hk:=hg x (by rw[hl];exact .head _);simp[z9w,rp4] at hx;exact hk hx.1.symm
 ·exact z05 ho hf (fun k hk hm=>by simp at hm;subst hm;exact hne hk)
theorem zjn(l:List ByteArray):zbs (z7e l):=fun x hx=>by
 obtain⟨s,_,rfl⟩:=List.mem_map.1 hx;show(4:Int)≠0;decide
theorem z2e{r:Rep}(h:r.list=[]):zbs r:=fun x hx=>by rw[h] at hx;cases hx
theorem z7t(s:List Ent)(now:Int)(key:ByteArray)(y:Itm)(til:Int)(chg nn:Bool)(e:Int){r:Rep}(h:zbs r):zbs (fin s now key y til chg nn e r).2:=by
 unfold fin;split
 ·split
  ·split
   ·exact h
   ·exact z2e rfl
  ·exact h
 ·split
  ·exact z2e rfl
  ·exact z2e rfl
theorem zek(c:Cm)(s:List Ent)(now:Int)(l:List ByteArray):zbs (doC c s now l).2:=by
 cases c
 all_goals
  simp only[doC]
  first
   | exact z2e rfl
   | exact z7t _ _ _ _ _ _ _ _ (z2e rfl)
   | exact z7t _ _ _ _ _ _ _ _ (zjn _)
   | (split <;> first|exact z2e rfl|exact z7t _ _ _ _ _ _ _ _ (z2e rfl)|(split <;> first|exact z2e rfl|exact z7t _ _ _ _ _ _ _ _ (z2e rfl)))
theorem zF(w:World):Hid (Fr [] w (w.alloc (.cells #[.int .i64 0,.string ⟨#[]⟩,.int .i64 0,.slice none 0 0] 54))):=hid ((Fr.refl [] w).alloc _)
theorem zQ(w:World):Hid (Whole (w.alloc (.cells #[.int .i64 0,.string ⟨#[]⟩,.int .i64 0,.slice none 0 0] 54)) w.heap.size 54 [.int .i64 0,.string ⟨#[]⟩,.int .i64 0,.slice none 0 0]):=hid (Whole.new w _ _)
section
variable {g B0:Nat} {sv:Value} {now:Int} {lv:Value} {l:List ByteArray} {s:List Ent} {w w1:World}
theorem zDI(hr:rises (ltK Ent.key) s=true)(hs:s.length≤16)(h:Dr g B0 sv now lv l s w):Hid (∀(W:World),Fr [] w W→Calls prog 124 #[.pointer (some ⟨g,0,none⟩),.string (wd l 0)] W (ItP B0 (z0q s now (wd l 0)).item W)):=
 hid (fun W hW=>zhg g B0 sv now lv l s (wd l 0) W hr (by omega) (h.go hW))
theorem zC1{x:Itm}{X1 X2 X3:Option Addr}{x1 x2 x3:Nat}(Q1:Hid (Whole w1 w.heap.size 54 [.int .i64 0,.string ⟨#[]⟩,.int .i64 0,.slice none 0 0]))(HI:Hid (z0l w1 B0 (.agg #[.int .i64 x.kind,.string x.text,.slice X1 x.list.length x1,.slice X2 x.pairs.length x2,.slice X3 x.scores.length x3]) x))(H:Hid (Dr g B0 sv now lv l s w))(F1:Hid (Fr [] w w1)):
  Hid (Cw g B0 sv now lv l s w1.heap.size [.int .i64 x.kind,.string x.text,.slice X1 x.list.length x1,.slice X2 x.pairs.length x2,.slice X3 x.scores.length x3] x w (w1.alloc (.cells #[.int .i64 x.kind,.string x.text,.slice X1 x.list.length x1,.slice X2 x.pairs.length x2,.slice X3 x.scores.length x3] 46))):=
 hid ⟨Q1.out.alloc _,Whole.new w1 _ _,HI.out.go ((Fr.refl [] w1).alloc _),(H.out.go F1.out).go ((Fr.refl [] w1).alloc _),F1.out.alloc _,(by have:=Q1.out.lt;exact this)⟩
end
theorem zCH(g B0:Nat)(sv:Value)(now:Int)(lv:Value)(l:List ByteArray)(s:List Ent)(w:World)(Y:Itm)(R:Rep)(C:Int)(ok:ze8 s)(hn:0 < l.length)(SY:Hid Y.Small):Hid (∀(W:World) (yv rv:Value),Dr g B0 sv now lv l s W→z0l W B0 yv Y→z4x W (w.heap.size+1) rv R→Calls prog 131 #[.pointer (some ⟨g,0,none⟩),yv,rv,.int .i64 C] W (ChD g B0 (w.heap.size+1) sv now lv l (fin s now (wd l 0) Y (z0q s now (wd l 0)).til true false C R) W)):=
 hid (fun W yv rv hd hy hr=>zdv g B0 (w.heap.size+1) sv now lv l s Y yv R rv C W ok.rise (by have:=ok.le;omega) hn SY.out hd hy hr)
theorem zV2(w1:World)(o:Obj):Hid (Whole ((w1.alloc o).alloc (.cells #[.int .i64 0,.string ⟨#[]⟩,.slice none 0 0,.slice none 0 0,.slice none 0 0] 46)) (w1.heap.size+1) 46 [.int .i64 0,.string ⟨#[]⟩,.slice none 0 0,.slice none 0 0,.slice none 0 0]):=hid (z73 w1 o _ _)
theorem zC2{g B0 gx:Nat}{sv:Value}{now:Int}{lv:Value}{l:List ByteArray}{s:List Ent}{cx:List Value}{x:Itm}{w wr:World}(C1:Hid (Cw g B0 sv now lv l s gx cx x w wr)):Hid (Cw g B0 sv now lv l s gx cx x w (wr.alloc (.cells #[.int .i64 0,.string ⟨#[]⟩,.slice none 0 0,.slice none 0 0,.slice none 0 0] 46))):=hid (C1.out.go ((Fr.refl [] _).alloc _))
end Go.Proofs.YtmkhmejempcimaaGreatDoor
