/- Contracts; no condition but each theorem's own. -/
import Derived.Test.YtmalkppcahogjaaGreatDoorSlR10
set_option linter.unusedVariables false
set_option linter.unusedSimpArgs false
set_option maxHeartbeats 8000000
set_option maxRecDepth 100000
namespace Go.Proofs.YtmalkppcahogjaaGreatDoor
open Lib (hid)
open Go.Proofs.Tryz (prog)
open Go.RowKit
theorem z1s.setW{w:World}{base o T i:Nat}{v:Value}{l:List Ent}{cs:List Value}(h:z1s w base v l)(hw:Whole w o T cs)(hT:T≠81∧T≠9∧T≠108∧T≠113)(u:Value):z1s (w.setCell ⟨o,i,none⟩ u) base v l:=by
 obtain⟨rs,hl,hi,ho⟩:=h;refine⟨rs,hl,fun j e he=>?_,z22 _ ho (zae ho hw hT.1)⟩;obtain⟨cs',hcs,A1,c1,A2,c2,A3,c3,rfl,o1,o2,o3⟩:=hi j e he;exact⟨_,hcs,A1,c1,A2,c2,A3,c3,rfl,z22 _ o1 (zae o1 hw hT.2.1),z22 _ o2 (zae o2 hw hT.2.2.1),z22 _ o3 (zae o3 hw hT.2.2.2)⟩
theorem Dr.off{g B0:Nat}{sv:Value}{now:Int}{lv:Value}{l:List ByteArray}{s:List Ent}{w:World}(h:Dr g B0 sv now lv l s w):g∉z2f sv:=by
 intro hm;obtain⟨rs,-,-,ho⟩:=h.e;have hn:=zae ho h.d (by decide);unfold z2f at hm;split at hm
 ·rename_i k hk;simp at hm;subst hm;exact hn rfl
 ·cases hm
theorem Dr.low{g B0:Nat}{sv:Value}{now:Int}{lv:Value}{l:List ByteArray}{s:List Ent}{w:World}(h:Dr g B0 sv now lv l s w):∀k,k∈g :: z2f sv→B0≤k∧k < w.heap.size:=fun k hk=>by
 obtain⟨rs,-,-,ho⟩:=h.e;rcases List.mem_cons.1 hk with rfl|hk
 ·exact⟨h.gb,h.lt⟩
 ·exact⟨z1f ho hk,zgm ho k hk⟩
theorem Dr.rowOff{g B0:Nat}{sv:Value}{now:Int}{lv:Value}{l:List ByteArray}{s:List Ent}{w:World}(h:Dr g B0 sv now lv l s w){base T size n:Nat}{v:Value}{xs:List Value}(ho:w.ownsRow base T size v n xs)(h1:156≠T)(h2:T≠81):∀k,v.ownBlock=some k→k∉g :: z2f sv:=fun k hk hm=>by
 obtain⟨rs,-,-,ho2⟩:=h.e;rcases List.mem_cons.1 hm with rfl|hm
 ·exact zae ho h.d h1 hk
 ·exact z40 ho ho2 h2 k hk hm
theorem Dr.repO{g B0:Nat}{sv:Value}{now:Int}{lv:Value}{l:List ByteArray}{s:List Ent}{w w1:World}(h:Dr g B0 sv now lv l s w){base:Nat}{v:Value}{r:Rep}(hr:z19 w base v r)(k:Fr (g :: z2f sv) w w1):z19 w1 base v r:=by
 obtain⟨h0,u,rfl,ho⟩:=hr;exact⟨h0,u,rfl,z0p ho k (h.rowOff ho (by decide) (by decide))⟩
theorem z1s.set4W{w:World}{base o:Nat}{v:Value}{l:List Ent}{cs:List Value}(h:z1s w base v l)(hw:Whole w o 27 cs)(a b c d:Value):z1s (set4 w o a b c d) base v l:=
 ((((h.setW (i:=0) hw (by decide) a).setW (i:=1) (hw.set_ 0 a) (by decide) b).setW (i:=2) ((hw.set_ 0 a).set_ 1 b) (by decide) c).setW (i:=3) (((hw.set_ 0 a).set_ 1 b).set_ 2 c) (by decide) d)
theorem Dr.set4W{g B0 o:Nat}{sv:Value}{now:Int}{lv:Value}{l:List ByteArray}{s:List Ent}{w:World}{cs:List Value}(h:Dr g B0 sv now lv l s w)(hw:Whole w o 27 cs)(hb:B0≤o)(a b c d:Value):Dr g B0 sv now lv l s (set4 w o a b c d):=by
 have hne:g≠o:=h.d.ne_ hw (by decide);have hf:Fr [o] w (set4 w o a b c d):=((((Fr.refl [o] w).setCell (p:=⟨o,0,none⟩) (.inl (.head _)) a).setCell (p:=⟨o,1,none⟩) (.inl (.head _)) b).setCell (p:=⟨o,2,none⟩) (.inl (.head _)) c).setCell (p:=⟨o,3,none⟩) (.inl (.head _)) d;exact⟨h.d.fr hf (by simpa using hne),h.e.set4W hw _ _ _ _,h.l.fr hf h.bz (fun k hk=>by simp at hk;subst hk;exact hb),h.gb⟩
def PutD(g B0:Nat)(sv:Value)(now:Int)(lv:Value)(l:List ByteArray)(s':List Ent)(c:Int)(w:World)(e:Ending)(w':World):Prop:=
 e=.returned (.int .i64 c)∧Fr (g :: z2f sv) w w'∧∃sv',Whole w' g 156 [sv',.int .i64 now,lv]∧(c=0→Dr g B0 sv' now lv l s' w')
theorem zdi{S:List Nat}{g:Nat}{a b:World}(h:Fr S a b):Fr (g :: S) a b:=h.more (fun k hk=>.inl (.tail _ hk))
theorem zab(g B0:Nat)(sv:Value)(now:Int)(lv:Value)(l:List ByteArray)(s:List Ent)(k:ByteArray)(x:Itm)(xv:Value)(u:Int)(w:World)(hr:rises (ltK Ent.key) s=true)(hl:s.length≤1000)(hsx:x.Small)(h:Dr g B0 sv now lv l s w)(hx:z0q w B0 xv x):
  Calls prog 233 #[.pointer (some ⟨g,0,none⟩),.string k,xv,.int .i64 u] w (PutD g B0 sv now lv l (z8g s now k x u) (z28 s now k x u) w):=by
 have RW:=hid (fun W (hW:Fr [] w W)=>zba s sv now k x xv u B0 W hr hl hsx (h.e.fr hW) (hx.go hW) (Nat.le_trans h.bz hW.size));obtain⟨X1,x1,X2,x2,X3,x3,rfl⟩:=hx.form;have F0:=hid ((Fr.refl [] w).alloc (.cells #[.int .i64 x.kind,.string x.text,.slice X1 x.list.length x1,.slice X2 x.pairs.length x2,.slice X3 x.scores.length x3] 65));have W0:=hid (Whole.new w 65 [.int .i64 x.kind,.string x.text,.slice X1 x.list.length x1,.slice X2 x.pairs.length x2,.slice X3 x.scores.length x3]);have H:=hid h;have hoff:=h.off;have hlow:=h.low;have hwz:w.heap.size∉z2f sv:=fun hm=>by have:=(hlow _ (.tail _ hm)).2;omega
 have OFF:=hid hoff;have OFZ:=hid hwz;have hlt:=h.lt;have hbz:=h.bz;obtain⟨SA,sc,rfl⟩:=h.sform;obtain⟨d0,d1,d2⟩:=(h.go F0.out).three;obtain⟨a0,a1,a2,a3,a4⟩:=five W0.out;clear d2 h hx hr hsx hoff hlow hwz;generalize z8g s now k x u=s' at *;generalize hpc:z28 s now k x u=c at *;clear hpc;by_cases hc:c=0
 ·subst hc;go_enter Tryz.func233,Tryz.ntmps233;go_wp2;go_region_held3 (fun wx=>wx.cell? ⟨g,0,none⟩=some (.slice SA s.length sc)∧wx.cell? ⟨g,1,none⟩=some (.int .i64 now)∧wx.cell? ⟨w.heap.size,0,none⟩=some (.int .i64 x.kind)∧wx.cell? ⟨w.heap.size,1,none⟩=some (.string x.text)∧wx.cell? ⟨w.heap.size,2,none⟩=some (.slice X1 x.list.length x1)∧wx.cell? ⟨w.heap.size,3,none⟩=some (.slice X2 x.pairs.length x2)∧wx.cell? ⟨w.heap.size,4,none⟩=some (.slice X3 x.scores.length x3)) (go_keep) ((go_at_call 163;refine(RW.out _ F0.out.drew).mono ?_;rintro e1 w1 ⟨uv,rfl,he,f1⟩;have F1:=hid (F0.out.up.trans f1.dr);have W1:=hid (W0.out.fr f1.dr OFZ.out);have W2:=hid ((H.out.go F0.out).d.fr f1.dr OFF.out);obtain⟨UA,uc,rfl⟩:=he.form;have HE:=hid he;clear he f1 d0 d1 a0 a1 a2 a3 a4;obtain⟨a0,a1,a2,a3,a4⟩:=five W1.out;have d0:=W2.out.cell 0;have d1:=W2.out.cell 1));have D1:=W2.out;have hlt2:=D1.lt;obtain⟨y0,y1,y2⟩:w1.cell? ⟨g,0,none⟩=some (.slice SA s.length sc)∧w1.cell? ⟨g,1,none⟩=some (.int .i64 now)∧w1.cell? ⟨g,2,none⟩=some lv:=⟨D1.cell 0,D1.cell 1,D1.cell 2⟩;have y3:=D1.frozen 0;clear d0 d1 a0 a1 a2 a3 a4;go_wp2;go_ret;refine⟨rfl,(zdi F1.out).setCell (p:=⟨g,0,none⟩) (.inl (.head _)) _,_,D1.set_ 0 _,fun _=>⟨D1.set_ 0 _,HE.out.setW D1 (by decide) _,?_,H.out.gb⟩⟩;exact H.out.l.fr ((zdi F1.out).setCell (p:=⟨g,0,none⟩) (.inl (.head _)) _) hbz (fun j hj=>(H.out.low j hj).1)
 ·have q1:(c==0)=false:=by simpa using hc
  have HC:=hid hc;clear hc;go_enter Tryz.func233,Tryz.ntmps233;go_wp2;go_region_held3 (fun wx=>wx.cell? ⟨g,0,none⟩=some (.slice SA s.length sc)∧wx.cell? ⟨g,1,none⟩=some (.int .i64 now)∧wx.cell? ⟨w.heap.size,0,none⟩=some (.int .i64 x.kind)∧wx.cell? ⟨w.heap.size,1,none⟩=some (.string x.text)∧wx.cell? ⟨w.heap.size,2,none⟩=some (.slice X1 x.list.length x1)∧wx.cell? ⟨w.heap.size,3,none⟩=some (.slice X2 x.pairs.length x2)∧wx.cell? ⟨w.heap.size,4,none⟩=some (.slice X3 x.scores.length x3)) (go_keep) ((go_at_call 163;refine(RW.out _ F0.out.drew).mono ?_;rintro e1 w1 ⟨uv,rfl,he,f1⟩;have F1:=hid (F0.out.up.trans f1.dr);have W1:=hid (W0.out.fr f1.dr OFZ.out);have W2:=hid ((H.out.go F0.out).d.fr f1.dr OFF.out);obtain⟨UA,uc,rfl⟩:=he.form;have HE:=hid he;clear he f1 d0 d1 a0 a1 a2 a3 a4;obtain⟨a0,a1,a2,a3,a4⟩:=five W1.out;have d0:=W2.out.cell 0;have d1:=W2.out.cell 1));clear d0 d1 a0 a1 a2 a3 a4;go_wp2;go_ret;exact⟨rfl,zdi F1.out,_,W2.out,fun h=>absurd h HC.out⟩
theorem zik(g B0:Nat)(sv:Value)(now:Int)(lv:Value)(l:List ByteArray)(s:List Ent)(x:Itm)(xv:Value)(w:World)(hr:rises (ltK Ent.key) s=true)(hl:s.length≤1000)(hn:0 < l.length)(hsx:x.Small)(h:Dr g B0 sv now lv l s w)(hx:z0q w B0 xv x):
  Calls prog 249 #[.pointer (some ⟨g,0,none⟩),xv] w (PutD g B0 sv now lv l (z8g s now (wd l 0) x (z00 s now (wd l 0)).til) (z28 s now (wd l 0) x (z00 s now (wd l 0)).til) w):=by
 have LK:=hid (fun W (hW:Fr [] w W)=>z1g s sv now (wd l 0) W B0 hr (by omega) (h.e.fr hW));have PT:=hid (fun W (hW:Fr [] w W)=>zab g B0 sv now lv l s (wd l 0) x xv (z00 s now (wd l 0)).til W hr hl hsx (h.go hW) (hx.go hW));obtain⟨X1,x1,X2,x2,X3,x3,rfl⟩:=hx.form;have F0:=hid ((Fr.refl [] w).alloc (.cells #[.int .i64 x.kind,.string x.text,.slice X1 x.list.length x1,.slice X2 x.pairs.length x2,.slice X3 x.scores.length x3] 65));have W0:=hid (Whole.new w 65 [.int .i64 x.kind,.string x.text,.slice X1 x.list.length x1,.slice X2 x.pairs.length x2,.slice X3 x.scores.length x3]);have F1:=hid (F0.out.alloc (.cells #[.string ⟨#[]⟩,.int .i64 0,.string ⟨#[]⟩,.slice none 0 0,.slice none 0 0,.slice none 0 0,.int .i64 0] 81));have V1:=hid (z60 w (.cells #[.int .i64 x.kind,.string x.text,.slice X1 x.list.length x1,.slice X2 x.pairs.length x2,.slice X3 x.scores.length x3] 65) 81 [.string ⟨#[]⟩,.int .i64 0,.string ⟨#[]⟩,.slice none 0 0,.slice none 0 0,.slice none 0 0,.int .i64 0]);have H:=hid h;have hlt:=h.lt;have hbz:=h.bz;obtain⟨SA,sc,rfl⟩:=h.sform;obtain⟨LA,lc,rfl⟩:=h.lform;obtain⟨b,off,rfl,hb,hc,hm,hat⟩:=h.word hn;have hw0:=hat 0 hn;rw[Nat.add_zero] at hw0;have HW0:=hid hw0;have DG:=hid (fun W (hW:Fr [] w W)=>(h.go hW).three);unfold maxLen at hm;clear h hx hr hsx hat hw0;have hn1:¬g=w.heap.size+1:=by omega
 have hn2:¬w.heap.size+1=g:=by omega
 have hn3:¬b=w.heap.size+1:=by omega
 have hn4:¬w.heap.size+1=b:=by omega
 have ix1:(0:Int) < (l.length:Int):=by omega
 generalize z8g s now (wd l 0) x (z00 s now (wd l 0)).til=s' at *;generalize hpc:z28 s now (wd l 0) x (z00 s now (wd l 0)).til=c at *;clear hpc;generalize z00 s now (wd l 0)=y at *;generalize z18 s now (wd l 0)=bb at *;generalize wd l 0=k at *;obtain⟨d0,d1,d2⟩:=DG.out _ F0.out;obtain⟨d3,d4,d5⟩:=DG.out _ F1.out;have d6:=F0.out.cell HW0.out (by simp);have d7:=F1.out.cell HW0.out (by simp);go_enter Tryz.func249,Tryz.ntmps249;go_upto_region 1 with fail;go_cut [5,6] (fun pb _ wx=>z89 B0 y (w.alloc (.cells #[.int .i64 x.kind,.string x.text,.slice X1 x.list.length x1,.slice X2 x.pairs.length x2,.slice X3 x.scores.length x3] 65)) pb wx)
 case first=>
  go_region_held3 (fun wx=>wx.cell? ⟨g,0,none⟩=some (.slice SA s.length sc)∧wx.cell? ⟨g,1,none⟩=some (.int .i64 now)∧wx.cell? ⟨g,2,none⟩=some (.slice (some ⟨b,off,none⟩) l.length lc)∧wx.cell? ⟨b,off,none⟩=some (.string k)) (go_keep) ((go_at_call 162;first|(refine(LK.out _ F0.out.drew).mono ?_;rintro e1 w1 ⟨A1,c1,A2,c2,A3,c3,rfl,hc,f1⟩;have F2:=hid (z01 f1);have F3:=hid (F0.out.trans F2.out);have HC:=hid hc;obtain⟨z0,z1,z2⟩:=DG.out _ F3.out;have z3:=F3.out.cell HW0.out (by simp);clear f1 hc)|(refine(LK.out _ F1.out.drew).mono ?_;rintro e1 w1 ⟨A1,c1,A2,c2,A3,c3,rfl,hc,f1⟩;have F2:=hid (z2b (z01 f1));have F3:=hid (F1.out.trans (z01 f1));have HC:=hid hc;have V2:=hid (V1.out.f0 (z01 f1));obtain⟨z0,z1,z2⟩:=DG.out _ F3.out;have z3:=F3.out.cell HW0.out (by simp);have y7:=seven V2.out;have z7:=z3u V2.out;clear f1 hc)))
  all_goals
   go_wp2;go_meet
   case rel=>first|with_reducible exact z89.new HC.out F2.out|exact z89.put HC.out F2.out (by simp) V2.out
 clear d0 d1 d2 d3 d4 d5 d6 d7;obtain⟨gb,A1,c1,A2,c2,A3,c3,rfl,hgb,hw,hc,hf⟩:=hcut;have F2:=hid (F0.out.trans hf);have VB:=hid hw;have W2:=hid (W0.out.f0 hf);have hgb2:w.heap.size < gb:=by simp at hgb;omega
 clear hf hw hc hgb;obtain⟨d0,d1,d2⟩:=DG.out _ F2.out;have d3:=F2.out.cell HW0.out (by simp);obtain⟨a0,a1,a2,a3,a4⟩:=five W2.out;have a5:=VB.out.cell 6;go_wp2;go_region_held3 (fun wx=>wx.cell? ⟨g,2,none⟩=some (.slice (some ⟨b,off,none⟩) l.length lc)∧wx.cell? ⟨b,off,none⟩=some (.string k)∧wx.cell? ⟨gb,6,none⟩=some (.int .i64 y.til)∧wx.cell? ⟨w.heap.size,0,none⟩=some (.int .i64 x.kind)∧wx.cell? ⟨w.heap.size,1,none⟩=some (.string x.text)∧wx.cell? ⟨w.heap.size,2,none⟩=some (.slice X1 x.list.length x1)∧wx.cell? ⟨w.heap.size,3,none⟩=some (.slice X2 x.pairs.length x2)∧wx.cell? ⟨w.heap.size,4,none⟩=some (.slice X3 x.scores.length x3)) (go_keep) ((go_at_call 233;refine(PT.out _ F2.out.drew).mono ?_;rintro e1 w1 ⟨rfl,f1,sv',hw',hd⟩;have N1:w.heap.size∉g :: z2f (.slice SA s.length sc):=fun hm=>(by have:=(H.out.low _ hm).2;omega);have N2:gb∉g :: z2f (.slice SA s.length sc):=fun hm=>(by have:=(H.out.low _ hm).2;omega);have N3:b∉g :: z2f (.slice SA s.length sc):=fun hm=>(by have:=(H.out.low _ hm).1;omega);have W3:=hid (W2.out.fr f1.dr N1);have VB3:=hid (VB.out.fr f1.dr N2);have G3:=hid hw';have HD:=hid hd;have FT:=hid (F2.out.up.trans f1.dr);have e3:=f1.dr.cell d3 N3;clear f1 hw' hd N1 N2 N3 d0 d1 d2 d3 a0 a1 a2 a3 a4 a5;obtain⟨a0,a1,a2,a3,a4⟩:=five W3.out;have a5:=VB3.out.cell 6;have d2:=G3.out.cell 2));go_wp2;go_ret;exact⟨rfl,FT.out,sv',G3.out,HD.out⟩
def ChD(g B0 bb:Nat)(sv:Value)(now:Int)(lv:Value)(l:List ByteArray)(p:List Ent×Rep)(w:World)(e:Ending)(w':World):Prop:=
 ∃u,e=.returned u∧z19 w' bb u p.2∧Fr (g :: z2f sv) w w'∧(p.2.kind≠2→∃sv',Dr g B0 sv' now lv l p.1 w')
theorem zl6(g B0 bb:Nat)(sv:Value)(now:Int)(lv:Value)(l:List ByteArray)(s:List Ent)(x:Itm)(xv:Value)(r:Rep)(rv:Value)(c:Int)(w:World)(hr:rises (ltK Ent.key) s=true)(hl:s.length≤1000)(hn:0 < l.length)(hsx:x.Small)(h:Dr g B0 sv now lv l s w)(hx:z0q w B0 xv x)(hrp:z19 w bb rv r):
  Calls prog 236 #[.pointer (some ⟨g,0,none⟩),xv,rv,.int .i64 c] w (ChD g B0 bb sv now lv l (fin s now (wd l 0) x (z00 s now (wd l 0)).til true false c r) w):=by
 have KP:=hid (fun W (hW:Fr [] w W)=>zik g B0 sv now lv l s x xv W hr hl hn hsx (h.go hW) (hx.go hW));have OR:=hid (fun W c (hq:z19 W bb rv r)=>z4p r rv c false bb W hq);have HR:=hid hrp;obtain⟨X1,x1,X2,x2,X3,x3,rfl⟩:=hx.form;obtain⟨R,rc,rfl⟩:=hrp.form;have F0:=hid ((((Fr.refl [] w).alloc (.cells #[.int .i64 x.kind,.string x.text,.slice X1 x.list.length x1,.slice X2 x.pairs.length x2,.slice X3 x.scores.length x3] 65)).alloc (.cells #[.int .i64 r.kind,.string r.text,.int .i64 r.n,.slice R r.list.length rc] 27)).alloc (.cells #[.int .i64 0,.string ⟨#[]⟩,.int .i64 0,.slice none 0 0] 27));have W0:=hid (Whole.alloc (Whole.alloc (Whole.new w 65 [.int .i64 x.kind,.string x.text,.slice X1 x.list.length x1,.slice X2 x.pairs.length x2,.slice X3 x.scores.length x3]) (.cells #[.int .i64 r.kind,.string r.text,.int .i64 r.n,.slice R r.list.length rc] 27)) (.cells #[.int .i64 0,.string ⟨#[]⟩,.int .i64 0,.slice none 0 0] 27));have R0:=hid (Whole.alloc (z60 w (.cells #[.int .i64 x.kind,.string x.text,.slice X1 x.list.length x1,.slice X2 x.pairs.length x2,.slice X3 x.scores.length x3] 65) 27 [.int .i64 r.kind,.string r.text,.int .i64 r.n,.slice R r.list.length rc]) (.cells #[.int .i64 0,.string ⟨#[]⟩,.int .i64 0,.slice none 0 0] 27))
 have Q0:=hid (show Whole (((w.alloc (.cells #[.int .i64 x.kind,.string x.text,.slice X1 x.list.length x1,.slice X2 x.pairs.length x2,.slice X3 x.scores.length x3] 65)).alloc (.cells #[.int .i64 r.kind,.string r.text,.int .i64 r.n,.slice R r.list.length rc] 27)).alloc (.cells #[.int .i64 0,.string ⟨#[]⟩,.int .i64 0,.slice none 0 0] 27)) (w.heap.size+1+1) 27 [.int .i64 0,.string ⟨#[]⟩,.int .i64 0,.slice none 0 0] from by
  have:=z60 (w.alloc (.cells #[.int .i64 x.kind,.string x.text,.slice X1 x.list.length x1,.slice X2 x.pairs.length x2,.slice X3 x.scores.length x3] 65)) (.cells #[.int .i64 r.kind,.string r.text,.int .i64 r.n,.slice R r.list.length rc] 27) 27 [.int .i64 0,.string ⟨#[]⟩,.int .i64 0,.slice none 0 0];rwa[show(w.alloc (.cells #[.int .i64 x.kind,.string x.text,.slice X1 x.list.length x1,.slice X2 x.pairs.length x2,.slice X3 x.scores.length x3] 65)).heap.size=w.heap.size+1 from by simp] at this)
 have H:=hid h;have hlt:=h.lt;have hbz:=h.bz
 have EF:=hid (show fin s now (wd l 0) x (z00 s now (wd l 0)).til true false c r=if c=0 then (if z28 s now (wd l 0) x (z00 s now (wd l 0)).til=0 then (z8g s now (wd l 0) x (z00 s now (wd l 0)).til,r) else (s,z7n (z28 s now (wd l 0) x (z00 s now (wd l 0)).til))) else (s,z7n c) from by
  unfold fin;rw[if_pos rfl];congr 1;exact if_neg (fun h=>by cases h.2))
 clear h hx hrp hr hsx;rw[EF.out];clear EF;generalize z8g s now (wd l 0) x (z00 s now (wd l 0)).til=s' at *;generalize hpc:z28 s now (wd l 0) x (z00 s now (wd l 0)).til=pc at *;clear hpc;by_cases hc:c=0
 ·subst hc;rw[if_pos rfl];by_cases hp:pc=0
  ·subst hp;rw[if_pos rfl];go_enter Tryz.func236,Tryz.ntmps236;obtain⟨a0,a1,a2,a3,a4⟩:=five W0.out;go_wp2_with fail;refine(KP.out _ F0.out).mono ?_;rintro e1 w1 ⟨rfl,f1,sv',hw',hd⟩;have R1:=hid (R0.out.fr f1 (fun hm=>by have:=(H.out.low _ hm).2;omega));have Q1:=hid (Q0.out.fr f1 (fun hm=>by have:=(H.out.low _ hm).2;omega));have HRQ:=hid (((H.out.go F0.out).repO (HR.out.fr F0.out) f1));have FT:=hid (F0.out.up.trans f1);have HD:=hid hd;clear f1 hw' hd a0 a1 a2 a3 a4;obtain⟨r0,r1,r2,r3⟩:=four R1.out;go_wp2_with fail;have EO:=hid (show orV (.agg #[.int .i64 r.kind,.string r.text,.int .i64 r.n,.slice R r.list.length rc]) 0 false=.agg #[.int .i64 r.kind,.string r.text,.int .i64 r.n,.slice R r.list.length rc] from rfl);refine(OR.out _ _ HRQ.out).mono ?_;rintro e2 w2 ⟨rfl,f2⟩;rw[EO.out];have Q2:=hid (Q1.out.f0 f2);have F2:=hid f2;clear f2 r0 r1 r2 r3;obtain⟨y0,y1,y2,y3⟩:=four Q2.out;obtain⟨z0,z1,z2,z3⟩:=z0h Q2.out;go_wp2;refine bodyPost_ret (v:=.agg #[.int .i64 r.kind,.string r.text,.int .i64 r.n,.slice R r.list.length rc]) (by simp[results,Tryz.results236,go_sem,y0,y1,y2,y3]) rfl ?_;have FF:=z0g (FT.out.trans F2.out.up) (show w.heap.size≤w.heap.size+1+1 by omega) (.int .i64 r.kind) (.string r.text) (.int .i64 r.n) (.slice R r.list.length rc);exact⟨_,rfl,H.out.repO HR.out FF,FF,fun _=>⟨sv',((HD.out (by simp)).go F2.out).set4W Q2.out (by omega) _ _ _ _⟩⟩
  ·rw[if_neg hp];have EO:=hid (show orV (.agg #[.int .i64 r.kind,.string r.text,.int .i64 r.n,.slice R r.list.length rc]) pc false=.agg #[.int .i64 2,.string ⟨#[]⟩,.int .i64 pc,.slice none 0 0] from by unfold orV;rw[if_neg hp,if_neg (fun h=>by cases h.2)]);clear hp;go_enter Tryz.func236,Tryz.ntmps236;obtain⟨a0,a1,a2,a3,a4⟩:=five W0.out;go_wp2_with fail;refine(KP.out _ F0.out).mono ?_;rintro e1 w1 ⟨rfl,f1,sv',hw',hd⟩;have R1:=hid (R0.out.fr f1 (fun hm=>by have:=(H.out.low _ hm).2;omega));have Q1:=hid (Q0.out.fr f1 (fun hm=>by have:=(H.out.low _ hm).2;omega));have HRQ:=hid (((H.out.go F0.out).repO (HR.out.fr F0.out) f1));have FT:=hid (F0.out.up.trans f1);have HD:=hid hd;clear f1 hw' hd a0 a1 a2 a3 a4;obtain⟨r0,r1,r2,r3⟩:=four R1.out;go_wp2_with fail;refine(OR.out _ _ HRQ.out).mono ?_;rintro e2 w2 ⟨rfl,f2⟩;rw[EO.out];have Q2:=hid (Q1.out.f0 f2);have F2:=hid f2;clear f2 r0 r1 r2 r3;obtain⟨y0,y1,y2,y3⟩:=four Q2.out;obtain⟨z0,z1,z2,z3⟩:=z0h Q2.out;go_wp2;refine bodyPost_ret (v:=.agg #[.int .i64 2,.string ⟨#[]⟩,.int .i64 pc,.slice none 0 0]) (by simp[results,Tryz.results236,go_sem,y0,y1,y2,y3]) rfl ?_;exact⟨_,rfl,z19.bare _ _ _ _ _,z0g (FT.out.trans F2.out.up) (show w.heap.size≤w.heap.size+1+1 by omega) _ _ _ _,fun h=>absurd rfl h⟩
 ·have q0:(c==0)=false:=by simpa using hc
  have EO:=hid (show orV (.agg #[.int .i64 r.kind,.string r.text,.int .i64 r.n,.slice R r.list.length rc]) c false=.agg #[.int .i64 2,.string ⟨#[]⟩,.int .i64 c,.slice none 0 0] from by unfold orV;rw[if_neg hc,if_neg (fun h=>by cases h.2)]);rw[if_neg hc];clear hc;go_enter Tryz.func236,Tryz.ntmps236;obtain⟨r0,r1,r2,r3⟩:=four R0.out;go_wp2_with fail;refine(OR.out _ _ (HR.out.fr F0.out)).mono ?_;rintro e2 w2 ⟨rfl,f2⟩;rw[EO.out];have Q2:=hid (Q0.out.f0 f2);have F2:=hid (F0.out.trans f2);clear f2 r0 r1 r2 r3;obtain⟨y0,y1,y2,y3⟩:=four Q2.out;obtain⟨z0,z1,z2,z3⟩:=z0h Q2.out;go_wp2;refine bodyPost_ret (v:=.agg #[.int .i64 2,.string ⟨#[]⟩,.int .i64 c,.slice none 0 0]) (by simp[results,Tryz.results236,go_sem,y0,y1,y2,y3]) rfl ?_;exact⟨_,rfl,z19.bare _ _ _ _ _,(z0g F2.out (show w.heap.size≤w.heap.size+1+1 by omega) _ _ _ _).up,fun h=>absurd rfl h⟩
theorem ChD.fin4{g B0:Nat}{sv:Value}{now:Int}{lv:Value}{l:List ByteArray}{s:List Ent}{r:Rep}{w w4:World}{A:Option Addr}{k:Nat}{cs:List Value}(hc:z19 w4 (w.heap.size+1) (.agg #[.int .i64 r.kind,.string r.text,.int .i64 r.n,.slice A r.list.length k]) r)(hf:Fr (g :: z2f sv) w w4)(hq:Whole w4 w.heap.size 27 cs)(hB:B0≤w.heap.size)(hd:r.kind≠2→∃sv',Dr g B0 sv' now lv l s w4):
  ChD g B0 B0 sv now lv l (s,r) w (.returned (.agg #[.int .i64 r.kind,.string r.text,.int .i64 r.n,.slice A r.list.length k])) (set4 w4 w.heap.size (.int .i64 r.kind) (.string r.text) (.int .i64 r.n) (.slice A r.list.length k)):=
 ⟨_,rfl,(hc.set4 (Nat.lt_succ_self _) _ _ _ _).base (by omega),z0g hf (Nat.le_refl _) _ _ _ _,fun h=>(hd h).imp fun _ k=>k.set4W hq hB _ _ _ _⟩
structure Cw(g B0:Nat)(sv:Value)(now:Int)(lv:Value)(l:List ByteArray)(s:List Ent)(gx:Nat)(cx:List Value)(x:Itm)(w wr:World):Prop where
 q:Whole wr w.heap.size 27 [.int .i64 0,.string ⟨#[]⟩,.int .i64 0,.slice none 0 0]
 b:Whole wr gx 65 cx
 i:z0q wr B0 (.agg cx.toArray) x
 d:Dr g B0 sv now lv l s wr
 f:Fr [] w wr
 gx:w.heap.size < gx
section
variable {g B0 gx:Nat} {sv:Value} {now:Int} {lv:Value} {l:List ByteArray} {s:List Ent} {cx:List Value} {x:Itm} {w wr w1:World}
theorem Cw.go(h:Cw g B0 sv now lv l s gx cx x w wr)(k:Fr [] wr w1):Cw g B0 sv now lv l s gx cx x w w1:=
 ⟨h.q.f0 k,h.b.f0 k,h.i.go k,h.d.go k,h.f.trans k,h.gx⟩
theorem Cw.drew(h:Cw g B0 sv now lv l s gx cx x w wr):Cw g B0 sv now lv l s gx cx x w wr.drew:=h.go (Fr.refl [] _).drew
end
def zb1(r:Rep):Prop:=∀x∈r.list,x.kind≠0
theorem z2m{w:World}{base o:Nat}{v:Value}{r:Rep}(h:z19 w base v r)(hg:zb1 r)(hq:Whole w o 27 [.int .i64 0,.string ⟨#[]⟩,.int .i64 0,.slice none 0 0])(a b c d:Value):z19 (set4 w o a b c d) base v r:=by
 obtain⟨h0,u,rfl,ho⟩:=h;refine⟨h0,u,rfl,?_⟩;have hq0:=hq;have hf:Fr [o] w (set4 w o a b c d):=((((Fr.refl [o] w).setCell (p:=⟨o,0,none⟩) (.inl (.head _)) a).setCell (p:=⟨o,1,none⟩) (.inl (.head _)) b).setCell (p:=⟨o,2,none⟩) (.inl (.head _)) c).setCell (p:=⟨o,3,none⟩) (.inl (.head _)) d;by_cases hne:u.ownBlock=some o
 ·refine⟨ho.1,?_⟩;rcases ho.2 with hz|⟨g,cap,cur,rfl,hb,hgg,hn,hm,hs,hx⟩
  ·exact .inl hz
  ·have:g=o:=by simpa[Value.ownBlock] using hne
   subst this;unfold Whole at hq;rw[hq] at hgg;injection hgg with hgg
   injection hgg with hgg
   subst hgg;have hc1:cap=1:=by simp at hs;omega
   subst hc1;rcases hl:r.list with _|⟨x,l⟩
   ·rw[hl] at hx hn;have hq2:Whole (set4 w g a b c d) g 27 [a,b,c,d]:=((hq0.set_ 0 a).set_ 1 b).set_ 2 c |>.set_ 3 d
    exact .inr ⟨g,1,_,rfl,hb,hq2,by simp,hm,by simp,by simp[z5b]⟩
   ·exfalso;rw[hl] at hx;have hl0:l=[]:=by rw[hl] at hn;simpa using hn
    subst hl0;have hk:=hg x (by rw[hl];exact .head _);simp[z5b,rp4] at hx;exact hk hx.1.symm
 ·exact z0p ho hf (fun k hk hm=>by simp at hm;subst hm;exact hne hk)
theorem zra(l:List ByteArray):zb1 (z1z l):=fun x hx=>by
 obtain⟨s,_,rfl⟩:=List.mem_map.1 hx;show(4:Int)≠0;decide
theorem z2u{r:Rep}(h:r.list=[]):zb1 r:=fun x hx=>by rw[h] at hx;cases hx
theorem zc7(s:List Ent)(now:Int)(key:ByteArray)(y:Itm)(til:Int)(chg nn:Bool)(e:Int){r:Rep}(h:zb1 r):zb1 (fin s now key y til chg nn e r).2:=by
 unfold fin;split
 ·split
  ·split
   ·exact h
   ·exact z2u rfl
  ·exact h
 ·split
  ·exact z2u rfl
  ·exact z2u rfl
theorem z0k(c:Cm)(s:List Ent)(now:Int)(l:List ByteArray):zb1 (doC c s now l).2:=by
 cases c
 all_goals
  simp only[doC]
  first
   | exact z2u rfl
   | exact zc7 _ _ _ _ _ _ _ _ (z2u rfl)
   | exact zc7 _ _ _ _ _ _ _ _ (zra _)
   | (split <;> first|exact z2u rfl|exact zc7 _ _ _ _ _ _ _ _ (z2u rfl)|(split <;> first|exact z2u rfl|exact zc7 _ _ _ _ _ _ _ _ (z2u rfl)))
theorem zut(s:List Ent)(now:Int)(l:List ByteArray):zb1 (doR s now l).2:=by
 unfold doR;split
 ·exact z2u rfl
 ·split
  ·exact z2u rfl
  ·exact z0k _ _ _ _
theorem z55(g B0:Nat)(sv:Value)(now:Int)(lv:Value)(l:List ByteArray)(s:List Ent)(pp:List Ent×Rep)(t:ByteArray)(ht:t=⟨#[103,101,116]⟩∨t=⟨#[115,101,116]⟩∨t=⟨#[97,112,112,101,110,100]⟩∨t=⟨#[115,116,114,108,101,110]⟩∨t=⟨#[105,110,99,114,98,121]⟩∨t=⟨#[103,101,116,114,97,110,103,101]⟩)(w:World)(hg:zb1 pp.2)(h:Dr g B0 sv now lv l s w)(K:∀W,Fr [] w W→Dr g B0 sv now lv l s W→Calls prog 182 #[.pointer (some ⟨g,0,none⟩),.string t] W (ChD g B0 B0 sv now lv l pp W)):
  Calls prog 120 #[.pointer (some ⟨g,0,none⟩),.string t] w (ChD g B0 B0 sv now lv l pp w):=by
 have F0:=hid ((Fr.refl [] w).alloc (.cells #[.int .i64 0,.string ⟨#[]⟩,.int .i64 0,.slice none 0 0] 27));have Q0:=hid (Whole.new w 27 [.int .i64 0,.string ⟨#[]⟩,.int .i64 0,.slice none 0 0]);have KK:=hid (K _ F0.out (h.go F0.out));have QN:=hid (show w.heap.size∉g :: z2f sv from fun hm=>by have:=(h.low _ hm).2;omega);have hbz:=h.bz;have HG:=hid hg;clear K h hg;rcases ht with rfl|rfl|rfl|rfl|rfl|rfl
 all_goals
  go_enter Tryz.func120,Tryz.ntmps120;go_wp2_with fail;refine KK.out.mono ?_;rintro e1 w1 ⟨u,rfl,hu,f1,hd⟩;have Q1:=hid (Q0.out.fr f1 QN.out);have F1:=hid (F0.out.up.trans f1);have HU:=hid hu;have HD:=hid hd;obtain⟨R,rc,rfl⟩:=hu.form;clear hu f1 hd;obtain⟨y0,y1,y2,y3⟩:=four Q1.out;obtain⟨z0,z1,z2,z3⟩:=z0h Q1.out;go_wp2;refine bodyPost_ret (v:=.agg #[.int .i64 pp.2.kind,.string pp.2.text,.int .i64 pp.2.n,.slice R pp.2.list.length rc]) (by simp[results,Tryz.results120,go_sem,y0,y1,y2,y3]) rfl ?_;exact⟨_,rfl,z2m HU.out HG.out Q1.out _ _ _ _,z0g F1.out (Nat.le_refl _) _ _ _ _,fun h=>(HD.out h).imp fun _ k=>k.set4W Q1.out hbz _ _ _ _⟩
theorem z5i(g B0:Nat)(sv:Value)(now:Int)(lv:Value)(l:List ByteArray)(s:List Ent)(pp:List Ent×Rep)(t:ByteArray)(ht:t=⟨#[100,101,108]⟩∨t=⟨#[101,120,105,115,116,115]⟩∨t=⟨#[116,121,112,101]⟩∨t=⟨#[107,101,121,115]⟩∨t=⟨#[101,120,112,105,114,101]⟩∨t=⟨#[116,116,108]⟩∨t=⟨#[112,101,114,115,105,115,116]⟩)(w:World)(hg:zb1 pp.2)(h:Dr g B0 sv now lv l s w)(K:∀W,Fr [] w W→Dr g B0 sv now lv l s W→Calls prog 183 #[.pointer (some ⟨g,0,none⟩),.string t] W (ChD g B0 B0 sv now lv l pp W)):
  Calls prog 120 #[.pointer (some ⟨g,0,none⟩),.string t] w (ChD g B0 B0 sv now lv l pp w):=by
 have F0:=hid ((Fr.refl [] w).alloc (.cells #[.int .i64 0,.string ⟨#[]⟩,.int .i64 0,.slice none 0 0] 27));have Q0:=hid (Whole.new w 27 [.int .i64 0,.string ⟨#[]⟩,.int .i64 0,.slice none 0 0]);have KK:=hid (K _ F0.out (h.go F0.out));have QN:=hid (show w.heap.size∉g :: z2f sv from fun hm=>by have:=(h.low _ hm).2;omega);have hbz:=h.bz;have HG:=hid hg;clear K h hg;rcases ht with rfl|rfl|rfl|rfl|rfl|rfl|rfl
 all_goals
  go_enter Tryz.func120,Tryz.ntmps120;go_wp2_with fail;refine KK.out.mono ?_;rintro e1 w1 ⟨u,rfl,hu,f1,hd⟩;have Q1:=hid (Q0.out.fr f1 QN.out);have F1:=hid (F0.out.up.trans f1);have HU:=hid hu;have HD:=hid hd;obtain⟨R,rc,rfl⟩:=hu.form;clear hu f1 hd;obtain⟨y0,y1,y2,y3⟩:=four Q1.out;obtain⟨z0,z1,z2,z3⟩:=z0h Q1.out;go_wp2;refine bodyPost_ret (v:=.agg #[.int .i64 pp.2.kind,.string pp.2.text,.int .i64 pp.2.n,.slice R pp.2.list.length rc]) (by simp[results,Tryz.results120,go_sem,y0,y1,y2,y3]) rfl ?_;exact⟨_,rfl,z2m HU.out HG.out Q1.out _ _ _ _,z0g F1.out (Nat.le_refl _) _ _ _ _,fun h=>(HD.out h).imp fun _ k=>k.set4W Q1.out hbz _ _ _ _⟩
theorem z47(g B0:Nat)(sv:Value)(now:Int)(lv:Value)(l:List ByteArray)(s:List Ent)(pp:List Ent×Rep)(t:ByteArray)(ht:t=⟨#[108,112,117,115,104]⟩∨t=⟨#[114,112,117,115,104]⟩∨t=⟨#[108,112,111,112]⟩∨t=⟨#[114,112,111,112]⟩∨t=⟨#[108,114,97,110,103,101]⟩∨t=⟨#[108,116,114,105,109]⟩∨t=⟨#[108,114,101,109]⟩)(w:World)(hg:zb1 pp.2)(h:Dr g B0 sv now lv l s w)(K:∀W,Fr [] w W→Dr g B0 sv now lv l s W→Calls prog 184 #[.pointer (some ⟨g,0,none⟩),.string t] W (ChD g B0 B0 sv now lv l pp W)):
  Calls prog 120 #[.pointer (some ⟨g,0,none⟩),.string t] w (ChD g B0 B0 sv now lv l pp w):=by
 have F0:=hid ((Fr.refl [] w).alloc (.cells #[.int .i64 0,.string ⟨#[]⟩,.int .i64 0,.slice none 0 0] 27));have Q0:=hid (Whole.new w 27 [.int .i64 0,.string ⟨#[]⟩,.int .i64 0,.slice none 0 0]);have KK:=hid (K _ F0.out (h.go F0.out));have QN:=hid (show w.heap.size∉g :: z2f sv from fun hm=>by have:=(h.low _ hm).2;omega);have hbz:=h.bz;have HG:=hid hg;clear K h hg;rcases ht with rfl|rfl|rfl|rfl|rfl|rfl|rfl
 all_goals
  go_enter Tryz.func120,Tryz.ntmps120;go_wp2_with fail;refine KK.out.mono ?_;rintro e1 w1 ⟨u,rfl,hu,f1,hd⟩;have Q1:=hid (Q0.out.fr f1 QN.out);have F1:=hid (F0.out.up.trans f1);have HU:=hid hu;have HD:=hid hd;obtain⟨R,rc,rfl⟩:=hu.form;clear hu f1 hd;obtain⟨y0,y1,y2,y3⟩:=four Q1.out;obtain⟨z0,z1,z2,z3⟩:=z0h Q1.out;go_wp2;refine bodyPost_ret (v:=.agg #[.int .i64 pp.2.kind,.string pp.2.text,.int .i64 pp.2.n,.slice R pp.2.list.length rc]) (by simp[results,Tryz.results120,go_sem,y0,y1,y2,y3]) rfl ?_;exact⟨_,rfl,z2m HU.out HG.out Q1.out _ _ _ _,z0g F1.out (Nat.le_refl _) _ _ _ _,fun h=>(HD.out h).imp fun _ k=>k.set4W Q1.out hbz _ _ _ _⟩
theorem z5f(g B0:Nat)(sv:Value)(now:Int)(lv:Value)(l:List ByteArray)(s:List Ent)(pp:List Ent×Rep)(t:ByteArray)(ht:t=⟨#[115,97,100,100]⟩∨t=⟨#[115,114,101,109]⟩∨t=⟨#[115,105,115,109,101,109,98,101,114]⟩∨t=⟨#[115,109,101,109,98,101,114,115]⟩∨t=⟨#[115,105,110,116,101,114]⟩∨t=⟨#[115,117,110,105,111,110]⟩∨t=⟨#[115,100,105,102,102]⟩)(w:World)(hg:zb1 pp.2)(h:Dr g B0 sv now lv l s w)(K:∀W,Fr [] w W→Dr g B0 sv now lv l s W→Calls prog 185 #[.pointer (some ⟨g,0,none⟩),.string t] W (ChD g B0 B0 sv now lv l pp W)):
  Calls prog 120 #[.pointer (some ⟨g,0,none⟩),.string t] w (ChD g B0 B0 sv now lv l pp w):=by
 have F0:=hid ((Fr.refl [] w).alloc (.cells #[.int .i64 0,.string ⟨#[]⟩,.int .i64 0,.slice none 0 0] 27));have Q0:=hid (Whole.new w 27 [.int .i64 0,.string ⟨#[]⟩,.int .i64 0,.slice none 0 0]);have KK:=hid (K _ F0.out (h.go F0.out));have QN:=hid (show w.heap.size∉g :: z2f sv from fun hm=>by have:=(h.low _ hm).2;omega);have hbz:=h.bz;have HG:=hid hg;clear K h hg;rcases ht with rfl|rfl|rfl|rfl|rfl|rfl|rfl
 all_goals
  go_enter Tryz.func120,Tryz.ntmps120;go_wp2_with fail;refine KK.out.mono ?_;rintro e1 w1 ⟨u,rfl,hu,f1,hd⟩;have Q1:=hid (Q0.out.fr f1 QN.out);have F1:=hid (F0.out.up.trans f1);have HU:=hid hu;have HD:=hid hd;obtain⟨R,rc,rfl⟩:=hu.form;clear hu f1 hd;obtain⟨y0,y1,y2,y3⟩:=four Q1.out;obtain⟨z0,z1,z2,z3⟩:=z0h Q1.out;go_wp2;refine bodyPost_ret (v:=.agg #[.int .i64 pp.2.kind,.string pp.2.text,.int .i64 pp.2.n,.slice R pp.2.list.length rc]) (by simp[results,Tryz.results120,go_sem,y0,y1,y2,y3]) rfl ?_;exact⟨_,rfl,z2m HU.out HG.out Q1.out _ _ _ _,z0g F1.out (Nat.le_refl _) _ _ _ _,fun h=>(HD.out h).imp fun _ k=>k.set4W Q1.out hbz _ _ _ _⟩
theorem z6r(g B0:Nat)(sv:Value)(now:Int)(lv:Value)(l:List ByteArray)(s:List Ent)(pp:List Ent×Rep)(t:ByteArray)(ht:t=⟨#[104,115,101,116]⟩∨t=⟨#[104,103,101,116]⟩∨t=⟨#[104,100,101,108]⟩∨t=⟨#[104,103,101,116,97,108,108]⟩)(w:World)(hg:zb1 pp.2)(h:Dr g B0 sv now lv l s w)(K:∀W,Fr [] w W→Dr g B0 sv now lv l s W→Calls prog 186 #[.pointer (some ⟨g,0,none⟩),.string t] W (ChD g B0 B0 sv now lv l pp W)):
  Calls prog 120 #[.pointer (some ⟨g,0,none⟩),.string t] w (ChD g B0 B0 sv now lv l pp w):=by
 have F0:=hid ((Fr.refl [] w).alloc (.cells #[.int .i64 0,.string ⟨#[]⟩,.int .i64 0,.slice none 0 0] 27));have Q0:=hid (Whole.new w 27 [.int .i64 0,.string ⟨#[]⟩,.int .i64 0,.slice none 0 0]);have KK:=hid (K _ F0.out (h.go F0.out));have QN:=hid (show w.heap.size∉g :: z2f sv from fun hm=>by have:=(h.low _ hm).2;omega);have hbz:=h.bz;have HG:=hid hg;clear K h hg;rcases ht with rfl|rfl|rfl|rfl
 all_goals
  go_enter Tryz.func120,Tryz.ntmps120;go_wp2_with fail;refine KK.out.mono ?_;rintro e1 w1 ⟨u,rfl,hu,f1,hd⟩;have Q1:=hid (Q0.out.fr f1 QN.out);have F1:=hid (F0.out.up.trans f1);have HU:=hid hu;have HD:=hid hd;obtain⟨R,rc,rfl⟩:=hu.form;clear hu f1 hd;obtain⟨y0,y1,y2,y3⟩:=four Q1.out;obtain⟨z0,z1,z2,z3⟩:=z0h Q1.out;go_wp2;refine bodyPost_ret (v:=.agg #[.int .i64 pp.2.kind,.string pp.2.text,.int .i64 pp.2.n,.slice R pp.2.list.length rc]) (by simp[results,Tryz.results120,go_sem,y0,y1,y2,y3]) rfl ?_;exact⟨_,rfl,z2m HU.out HG.out Q1.out _ _ _ _,z0g F1.out (Nat.le_refl _) _ _ _ _,fun h=>(HD.out h).imp fun _ k=>k.set4W Q1.out hbz _ _ _ _⟩
theorem z41(g B0:Nat)(sv:Value)(now:Int)(lv:Value)(l:List ByteArray)(s:List Ent)(pp:List Ent×Rep)(t:ByteArray)(ht:t=⟨#[122,97,100,100]⟩∨t=⟨#[122,114,101,109]⟩∨t=⟨#[122,115,99,111,114,101]⟩∨t=⟨#[122,114,97,110,107]⟩∨t=⟨#[122,114,97,110,103,101]⟩∨t=⟨#[122,114,97,110,103,101,98,121,115,99,111,114,101]⟩)(w:World)(hg:zb1 pp.2)(h:Dr g B0 sv now lv l s w)(K:∀W,Fr [] w W→Dr g B0 sv now lv l s W→Calls prog 187 #[.pointer (some ⟨g,0,none⟩),.string t] W (ChD g B0 B0 sv now lv l pp W)):
  Calls prog 120 #[.pointer (some ⟨g,0,none⟩),.string t] w (ChD g B0 B0 sv now lv l pp w):=by
 have F0:=hid ((Fr.refl [] w).alloc (.cells #[.int .i64 0,.string ⟨#[]⟩,.int .i64 0,.slice none 0 0] 27));have Q0:=hid (Whole.new w 27 [.int .i64 0,.string ⟨#[]⟩,.int .i64 0,.slice none 0 0]);have KK:=hid (K _ F0.out (h.go F0.out));have QN:=hid (show w.heap.size∉g :: z2f sv from fun hm=>by have:=(h.low _ hm).2;omega);have hbz:=h.bz;have HG:=hid hg;clear K h hg;rcases ht with rfl|rfl|rfl|rfl|rfl|rfl
 all_goals
  go_enter Tryz.func120,Tryz.ntmps120;go_wp2_with fail;refine KK.out.mono ?_;rintro e1 w1 ⟨u,rfl,hu,f1,hd⟩;have Q1:=hid (Q0.out.fr f1 QN.out);have F1:=hid (F0.out.up.trans f1);have HU:=hid hu;have HD:=hid hd;obtain⟨R,rc,rfl⟩:=hu.form;clear hu f1 hd;obtain⟨y0,y1,y2,y3⟩:=four Q1.out;obtain⟨z0,z1,z2,z3⟩:=z0h Q1.out;go_wp2;refine bodyPost_ret (v:=.agg #[.int .i64 pp.2.kind,.string pp.2.text,.int .i64 pp.2.n,.slice R pp.2.list.length rc]) (by simp[results,Tryz.results120,go_sem,y0,y1,y2,y3]) rfl ?_;exact⟨_,rfl,z2m HU.out HG.out Q1.out _ _ _ _,z0g F1.out (Nat.le_refl _) _ _ _ _,fun h=>(HD.out h).imp fun _ k=>k.set4W Q1.out hbz _ _ _ _⟩
section
variable (g B0:Nat) (sv:Value) (now:Int) (lv:Value) (l:List ByteArray) (s:List Ent) (c0:ByteArray) (w:World)
theorem zx7(h:Dr g B0 sv now lv l s w):
  Calls prog 120 #[.pointer (some ⟨g,0,none⟩),.string ⟨#[112,105,110,103]⟩] w (ChD g B0 B0 sv now lv l (doC .ping s now (c0 :: l)) w):=by
 have F0:=hid ((Fr.refl [] w).alloc (.cells #[.int .i64 0,.string ⟨#[]⟩,.int .i64 0,.slice none 0 0] 27));have Q0:=hid (Whole.new w 27 [.int .i64 0,.string ⟨#[]⟩,.int .i64 0,.slice none 0 0]);have H:=hid h;have hbz:=h.bz;have EP:doC .ping s now (c0 :: l)=(s,z3n ⟨#[80,79,78,71]⟩):=rfl;rw[EP];clear EP h;go_enter Tryz.func120,Tryz.ntmps120;go_wp2_with fail;refine(zc6 _ _).mono ?_;rintro e1 w1 ⟨rfl,f1⟩;have Q1:=hid (Q0.out.f0 f1);have F1:=hid (F0.out.trans f1);clear f1;obtain⟨y0,y1,y2,y3⟩:=four Q1.out;obtain⟨z0,z1,z2,z3⟩:=z0h Q1.out;go_wp2;refine bodyPost_ret (v:=.agg #[.int .i64 1,.string ⟨#[80,79,78,71]⟩,.int .i64 0,.slice none 0 0]) (by simp[results,Tryz.results120,go_sem,y0,y1,y2,y3]) rfl ?_;exact⟨_,rfl,z19.bare _ _ _ _ _,z0g F1.out.up (Nat.le_refl _) _ _ _ _,fun _=>⟨_,(H.out.go F1.out).set4W Q1.out hbz _ _ _ _⟩⟩
theorem zF(w:World):Hid (Fr [] w (w.alloc (.cells #[.int .i64 0,.string ⟨#[]⟩,.int .i64 0,.slice none 0 0] 27))):=hid ((Fr.refl [] w).alloc _)
theorem zQ(w:World):Hid (Whole (w.alloc (.cells #[.int .i64 0,.string ⟨#[]⟩,.int .i64 0,.slice none 0 0] 27)) w.heap.size 27 [.int .i64 0,.string ⟨#[]⟩,.int .i64 0,.slice none 0 0]):=hid (Whole.new w _ _)
theorem zF2(w:World)(g:Nat):Hid (Fr [] w ((w.alloc (.cells #[.pointer (some ⟨g,0,none⟩)] 154)).alloc (.cells #[.int .i64 0,.string ⟨#[]⟩,.int .i64 0,.slice none 0 0] 27))):=hid (((Fr.refl [] w).alloc _).alloc _)
theorem zP0(w:World)(g:Nat):Hid (Whole ((w.alloc (.cells #[.pointer (some ⟨g,0,none⟩)] 154)).alloc (.cells #[.int .i64 0,.string ⟨#[]⟩,.int .i64 0,.slice none 0 0] 27)) w.heap.size 154 [.pointer (some ⟨g,0,none⟩)]):=hid (Whole.alloc (Whole.new w 154 [.pointer (some ⟨g,0,none⟩)]) _)
theorem zQ0(w:World)(g:Nat):Hid (Whole ((w.alloc (.cells #[.pointer (some ⟨g,0,none⟩)] 154)).alloc (.cells #[.int .i64 0,.string ⟨#[]⟩,.int .i64 0,.slice none 0 0] 27)) (w.heap.size+1) 27 [.int .i64 0,.string ⟨#[]⟩,.int .i64 0,.slice none 0 0]):=hid (z60 w _ _ _)
theorem zV1(w:World)(g:Nat):Hid (Whole (((w.alloc (.cells #[.pointer (some ⟨g,0,none⟩)] 154)).alloc (.cells #[.int .i64 0,.string ⟨#[]⟩,.int .i64 0,.slice none 0 0] 27)).alloc (.cells #[.string ⟨#[]⟩,.int .i64 0,.string ⟨#[]⟩,.slice none 0 0,.slice none 0 0,.slice none 0 0,.int .i64 0] 81)) (w.heap.size+1+1) 81 [.string ⟨#[]⟩,.int .i64 0,.string ⟨#[]⟩,.slice none 0 0,.slice none 0 0,.slice none 0 0,.int .i64 0]):=hid (by
 have:=Whole.new ((w.alloc (.cells #[.pointer (some ⟨g,0,none⟩)] 154)).alloc (.cells #[.int .i64 0,.string ⟨#[]⟩,.int .i64 0,.slice none 0 0] 27)) 81 [.string ⟨#[]⟩,.int .i64 0,.string ⟨#[]⟩,.slice none 0 0,.slice none 0 0,.slice none 0 0,.int .i64 0];rwa[show((w.alloc (.cells #[.pointer (some ⟨g,0,none⟩)] 154)).alloc (.cells #[.int .i64 0,.string ⟨#[]⟩,.int .i64 0,.slice none 0 0] 27)).heap.size=w.heap.size+1+1 from by simp] at this)
section
variable {g B0:Nat} {sv:Value} {now:Int} {lv:Value} {l:List ByteArray} {s:List Ent} {w w1:World}
theorem zDI(hr:rises (ltK Ent.key) s=true)(hs:s.length≤16)(h:Dr g B0 sv now lv l s w):Hid (∀(W:World),Fr [] w W→Calls prog 229 #[.pointer (some ⟨g,0,none⟩),.string (wd l 0)] W (ItP B0 (z00 s now (wd l 0)).item W)):=
 hid (fun W hW=>zhg g B0 sv now lv l s (wd l 0) W hr (by omega) (h.go hW))
theorem zC1{x:Itm}{X1 X2 X3:Option Addr}{x1 x2 x3:Nat}(Q1:Hid (Whole w1 w.heap.size 27 [.int .i64 0,.string ⟨#[]⟩,.int .i64 0,.slice none 0 0]))(HI:Hid (z0q w1 B0 (.agg #[.int .i64 x.kind,.string x.text,.slice X1 x.list.length x1,.slice X2 x.pairs.length x2,.slice X3 x.scores.length x3]) x))(H:Hid (Dr g B0 sv now lv l s w))(F1:Hid (Fr [] w w1)):
  Hid (Cw g B0 sv now lv l s w1.heap.size [.int .i64 x.kind,.string x.text,.slice X1 x.list.length x1,.slice X2 x.pairs.length x2,.slice X3 x.scores.length x3] x w (w1.alloc (.cells #[.int .i64 x.kind,.string x.text,.slice X1 x.list.length x1,.slice X2 x.pairs.length x2,.slice X3 x.scores.length x3] 65))):=
 hid ⟨Q1.out.alloc _,Whole.new w1 _ _,HI.out.go ((Fr.refl [] w1).alloc _),(H.out.go F1.out).go ((Fr.refl [] w1).alloc _),F1.out.alloc _,(by have:=Q1.out.lt;exact this)⟩
end
theorem zCH(g B0:Nat)(sv:Value)(now:Int)(lv:Value)(l:List ByteArray)(s:List Ent)(w:World)(Y:Itm)(R:Rep)(C:Int)(ok:z1y s)(hn:0 < l.length)(SY:Hid Y.Small):Hid (∀(W:World) (yv rv:Value),Dr g B0 sv now lv l s W→z0q W B0 yv Y→z19 W (w.heap.size+1) rv R→Calls prog 236 #[.pointer (some ⟨g,0,none⟩),yv,rv,.int .i64 C] W (ChD g B0 (w.heap.size+1) sv now lv l (fin s now (wd l 0) Y (z00 s now (wd l 0)).til true false C R) W)):=
 hid (fun W yv rv hd hy hr=>zl6 g B0 (w.heap.size+1) sv now lv l s Y yv R rv C W ok.rise (by have:=ok.le;omega) hn SY.out hd hy hr)
theorem zV2(w1:World)(o:Obj):Hid (Whole ((w1.alloc o).alloc (.cells #[.int .i64 0,.string ⟨#[]⟩,.slice none 0 0,.slice none 0 0,.slice none 0 0] 65)) (w1.heap.size+1) 65 [.int .i64 0,.string ⟨#[]⟩,.slice none 0 0,.slice none 0 0,.slice none 0 0]):=hid (z60 w1 o _ _)
theorem zC2{g B0 gx:Nat}{sv:Value}{now:Int}{lv:Value}{l:List ByteArray}{s:List Ent}{cx:List Value}{x:Itm}{w wr:World}(C1:Hid (Cw g B0 sv now lv l s gx cx x w wr)):Hid (Cw g B0 sv now lv l s gx cx x w (wr.alloc (.cells #[.int .i64 0,.string ⟨#[]⟩,.slice none 0 0,.slice none 0 0,.slice none 0 0] 65))):=hid (C1.out.go ((Fr.refl [] _).alloc _))
theorem zF3{w0 w:World}(F0:Hid (Fr [] w0 w)):Hid (Fr [] w0 (w.alloc (.cells #[.string ⟨#[]⟩,.int .i64 0,.string ⟨#[]⟩,.slice none 0 0,.slice none 0 0,.slice none 0 0,.int .i64 0] 81))):=hid (F0.out.alloc _)
theorem zP1{w:World}{g t:Nat}{cs:List Value}(P0:Hid (Whole w g t cs)):Whole (w.alloc (.cells #[.string ⟨#[]⟩,.int .i64 0,.string ⟨#[]⟩,.slice none 0 0,.slice none 0 0,.slice none 0 0,.int .i64 0] 81)) g t cs:=P0.out.alloc _
theorem zI1{g B0:Nat}{sv:Value}{now:Int}{lv:Value}{l:List ByteArray}{s:List Ent}{w:World}{n:Int}(hi:1 < l.length)(hz:∀t∈l,t.size≤60)(h1:z2z (wd l 1).data.toList=some n)(hv:Vars w)(h:Dr g B0 sv now lv l s w):Hid (∀(W:World),Fr [] w W→Calls prog 240 #[.pointer (some ⟨g,0,none⟩),.int .i64 1] W (fun e w'=>e=.returned (.int .i64 n)∧Fr [] W w')):=
 hid (fun W hW=>zgt g B0 sv now lv l s 1 n W hi (fun t ht=>by have:=hz t ht;omega) h1 (hv.fr hW) (h.go hW))
theorem zI2{g B0:Nat}{sv:Value}{now:Int}{lv:Value}{l:List ByteArray}{s:List Ent}{w:World}{n:Int}(hi:2 < l.length)(hz:∀t∈l,t.size≤60)(h1:z2z (wd l 2).data.toList=some n)(hv:Vars w)(h:Dr g B0 sv now lv l s w):Hid (∀(W:World),Fr [] w W→Calls prog 240 #[.pointer (some ⟨g,0,none⟩),.int .i64 2] W (fun e w'=>e=.returned (.int .i64 n)∧Fr [] W w')):=
 hid (fun W hW=>zgt g B0 sv now lv l s 2 n W hi (fun t ht=>by have:=hz t ht;omega) h1 (hv.fr hW) (h.go hW))
theorem zsi{v:Int}(h:z0i v=true):(⟨(Lib.itoa v).toArray⟩:ByteArray).size≤10:=by
 have:=(zcd h).2;show(Lib.itoa v).toArray.size≤10;simpa using this
theorem ba_eq{a b:ByteArray}(h:a.data.toList=b.data.toList):a=b:=by
 cases a with|mk a=>cases b with|mk b=>exact congrArg ByteArray.mk (Array.toList_inj.1 h)
theorem rg_of{x:Itm}(f t:Int)(h:z02 1 x=0):(rgS x f t).data.toList=z25 x.text.data.toList f t:=by
 unfold rgS;rw[if_pos h];exact zfk _ _ _
theorem zjl{α:Type}(l:List α):z25 l 0 (-1)=l:=by
 unfold z25 z5u z5q;simp only[Int.lt_irrefl,if_false,show((-1:Int) < 0) from by decide,if_true];by_cases h:l.length=0
 ·rw[List.eq_nil_of_length_eq_zero h];simp
 ·rw[if_neg (by omega),if_neg (by omega)];rw[List.take_of_length_le (by omega)];rfl
theorem zzd{x:Itm}(h:z02 1 x=0):rgS x 0 (-1)=x.text:=ba_eq (by rw[rg_of _ _ h,zjl])
theorem ad_ok{x:Itm}{n:Int}(h:z3j x n=0):z02 1 x=0∧z0i n=true∧z0i (z5k x+n)=true∧(x.kind≠0→z2z x.text.data.toList=some (z5k x))∧z0i (z5k x)=true∧adY x n=z45 ⟨(Lib.itoa (z5k x+n)).toArray⟩∧adN x n=z5k x+n:=by
 have hy:adY x n=z45 ⟨(Lib.itoa (z5k x+n)).toArray⟩:=by unfold adY;rw[if_pos h]
 have hn:adN x n=z5k x+n:=by unfold adN;rw[if_pos h]
 unfold z3j at h;by_cases h1:z02 1 x=0
 ·rw[if_neg (by simpa using h1)] at h;by_cases h2:x.kind≠0∧z2z x.text.data.toList=none
  ·rw[if_pos h2] at h;cases h
  ·rw[if_neg h2] at h;by_cases h3:z0i n=true∧z0i (z5k x+n)=true
   ·have h4:x.kind≠0→z2z x.text.data.toList=some (z5k x):=fun hk=>by
     cases hL:z2z x.text.data.toList with
     | none=>exact absurd ⟨hk,hL⟩ h2
     | some u=>unfold z5k;rw[if_neg hk,hL];rfl
    refine⟨h1,h3.1,h3.2,h4,?_,hy,hn⟩;by_cases hk:x.kind=0
    ·unfold z5k;rw[if_pos hk];decide
    ·exact(z4u.1 (h4 hk)).1
   ·rw[if_neg h3] at h;cases h
 ·rw[if_pos h1] at h;exact absurd h h1
theorem ap_ok{x:Itm}{s:ByteArray}(h:z3a x s=0):z02 1 x=0∧x.text.size+s.size≤60∧apY x s=z45 (x.text++s)∧apN x s=((x.text.size+s.size:Nat):Int):=by
 have hy:apY x s=z45 (x.text++s):=by unfold apY;rw[if_pos h]
 have hn:apN x s=((x.text.size+s.size:Nat):Int):=by unfold apN;rw[if_pos h]
 unfold z3a at h;by_cases h1:z02 1 x=0
 ·rw[if_neg (by simpa using h1)] at h;by_cases h2:60 < x.text.size+s.size
  ·rw[if_pos h2] at h;cases h
  ·exact⟨h1,by omega,hy,hn⟩
 ·rw[if_pos h1] at h;exact absurd h h1
theorem ap_no{x:Itm}{s:ByteArray}(h:z3a x s≠0):apY x s=z2p 0∧apN x s=0:=
 ⟨by unfold apY;rw[if_neg h],by unfold apN;rw[if_neg h]⟩
theorem zso{x:Itm}{s:ByteArray}:(apY x s).Small:=by
 by_cases h:z3a x s=0
 ·obtain⟨_,h1,h2,_⟩:=ap_ok h;rw[h2];exact z8n (by simp;omega)
 ·rw[(ap_no h).1];exact z1c 0 (by decide)
theorem zph{x:Itm}{n:Int}:(adY x n).Small:=by
 by_cases h:z3j x n=0
 ·obtain⟨_,_,h1,_,_,h2,_⟩:=ad_ok h;rw[h2];exact z8n (by have:=zsi h1;omega)
 ·rw[(q09 rfl h).1];exact z1c 0 (by decide)
theorem zck{l:List ByteArray}{n:Nat}(h:∀t∈l,t.size≤n)(i:Nat):(wd l i).size≤n:=by
 unfold wd;rw[List.getD_eq_getElem?_getD];rcases hi:l[i]? with _|t
 ·show(⟨#[]⟩:ByteArray).size≤n;exact Nat.zero_le _
 ·exact h t (List.mem_of_getElem? hi)
theorem zap{w:World}{B b off c:Nat}{l:List ByteArray}(h:Sl w B 1 (.slice (some ⟨b,off,none⟩) l.length c) l.length (z04 l))(h1:1≤l.length)(hc:¬c=1):Sl w B 1 (.slice (some ⟨b,off+1,none⟩) (l.length - 1) (c - 1)) (l.length - 1) (z04 (l.drop 1)):=by
 have hq:=h.cut (a:=1) (b:=l.length) h1 (Nat.le_refl _);rw[if_neg hc] at hq
 have e:((z04 l).drop (1 * 1)).take ((l.length - 1) * 1)=z04 (l.drop 1):=by
  rw[List.take_of_length_le (by simp[z04])];simp[z04,List.map_drop]
 rw[e] at hq;exact hq
theorem z09{s:List Ent}(h:z1y s):∀e∈s,e.Small:=fun e he=>
 ⟨by have:=h.keys e he;omega,zjj (z4x (h.items e he)),by have:=h.times e he;omega⟩
theorem zog(ok:z1y s)(hn:2≤l.length)(h12:l.length≤11)(hz:∀t∈l,t.size≤60)(h:Dr g B0 sv now lv l s w):
  Calls prog 182 #[.pointer (some ⟨g,0,none⟩),.string ⟨#[97,112,112,101,110,100]⟩] w (ChD g B0 B0 sv now lv l (doC .append_ s now (c0 :: l)) w):=by
 have hr:=ok.rise;have hs16:=ok.le;have DI:=zDI hr hs16 h;have LS:=hid (z0b (z09 ok) now (wd l 0)).item;have hzw:∀i,(wd l i).size≤60:=zck hz;have EP:doC .append_ s now (c0 :: l)=fin s now (wd l 0) (apY (z00 s now (wd l 0)).item (wd l 1)) (z00 s now (wd l 0)).til true false (z3a (z00 s now (wd l 0)).item (wd l 1)) (z0o (apN (z00 s now (wd l 0)).item (wd l 1))):=rfl;have SY:=hid (show(apY (z00 s now (wd l 0)).item (wd l 1)).Small from zso);have OP:=hid (fun W u (k:z0r W W.heap.size u (z00 s now (wd l 0)).item)=>zl5 (z00 s now (wd l 0)).item u (wd l 1) W W.heap.size LS.out (Nat.le_refl _) k (by have:=hzw 1;omega));have CH:=zCH g B0 sv now lv l s w (apY (z00 s now (wd l 0)).item (wd l 1)) (z0o (apN (z00 s now (wd l 0)).item (wd l 1))) (z3a (z00 s now (wd l 0)).item (wd l 1)) ok (by omega) SY;rw[EP];clear EP SY;have H:=hid h;have hlt:=h.lt;have hbz:=h.bz;obtain⟨SA,sc,rfl⟩:=h.sform;obtain⟨LA,lc,rfl⟩:=h.lform;obtain⟨b,off,rfl,hb,hc,hm,hat⟩:=h.word (by omega);have HAT:=hid hat;have DG:=hid (fun W (hW:Fr [] w W)=>(h.go hW).three);unfold maxLen at hm;clear h hr hat hzw ok;generalize fin s now (wd l 0) (apY (z00 s now (wd l 0)).item (wd l 1)) (z00 s now (wd l 0)).til true false (z3a (z00 s now (wd l 0)).item (wd l 1)) (z0o (apN (z00 s now (wd l 0)).item (wd l 1)))=pp at *;generalize apY (z00 s now (wd l 0)).item (wd l 1)=y at *;generalize apN (z00 s now (wd l 0)).item (wd l 1)=nn at *;generalize z3a (z00 s now (wd l 0)).item (wd l 1)=cc at *;generalize (z00 s now (wd l 0)).item=x at *;have ix1:(1:Int) < (l.length:Int):=by omega
 have F0:=zF w;have Q0:=zQ w;obtain⟨d0,d1,d2⟩:=DG.out _ F0.out;have dw:=F0.out.cell (HAT.out 0 (by omega)) (by simp);rw[Nat.add_zero] at dw;go_enter Tryz.func182,Tryz.ntmps182;go_wp2_with fail;refine(DI.out _ F0.out).mono ?_;rintro e1 w1 ⟨xv,rfl,hi,f1⟩;have F1:=hid (F0.out.trans f1);have Q1:=hid (Q0.out.f0 f1);have HI:=hid hi;obtain⟨X1,x1,X2,x2,X3,x3,rfl⟩:=hi.form;have hz1:=f1.size;simp at hz1;clear f1 hi d0 d1 d2 dw;have C1:=zC1 Q1 HI H F1;have C2:=zC2 C1;obtain⟨d0,d1,d2,d3,d4⟩:=five C1.out.b;have d5:=(C1.out.d).three.2.2;have d6:=C1.out.f.cell (HAT.out 1 (by omega)) (by simp);obtain⟨h0,h1,h2,h3,h4⟩:=five C2.out.b;have h5:=(C2.out.d).three.2.2;have h6:=C2.out.f.cell (HAT.out 1 (by omega)) (by simp);have V2:=zV2 w1 (.cells #[.int .i64 x.kind,.string x.text,.slice X1 x.list.length x1,.slice X2 x.pairs.length x2,.slice X3 x.scores.length x3] 65);have hb1:¬g=w1.heap.size+1:=by have:=C1.out.d.lt;simp at this;omega
 have hb2:¬w1.heap.size+1=g:=by have:=C1.out.d.lt;simp at this;omega
 have hb3:¬b=w1.heap.size+1:=by omega
 have hb4:¬w1.heap.size+1=b:=by omega
 go_upto_region 11 with fail;go_cut [8,9,10] (fun pb pn pe wx=>pn=.int .i64 nn∧pe=.int .i64 cc∧z8u B0 y (w1.alloc (.cells #[.int .i64 x.kind,.string x.text,.slice X1 x.list.length x1,.slice X2 x.pairs.length x2,.slice X3 x.scores.length x3] 65)) pb wx)
 case first=>
  go_region_held3 (fun wx=>wx.cell? ⟨w1.heap.size,0,none⟩=some (.int .i64 x.kind)∧wx.cell? ⟨w1.heap.size,1,none⟩=some (.string x.text)∧wx.cell? ⟨w1.heap.size,2,none⟩=some (.slice X1 x.list.length x1)∧wx.cell? ⟨w1.heap.size,3,none⟩=some (.slice X2 x.pairs.length x2)∧wx.cell? ⟨w1.heap.size,4,none⟩=some (.slice X3 x.scores.length x3)∧wx.cell? ⟨g,2,none⟩=some (.slice (some ⟨b,off,none⟩) l.length lc)∧wx.cell? ⟨b,off+1,none⟩=some (.string (wd l 1))) (go_keep) ((first|fail|(go_at_call 235;first|(refine(OP.out _ _ C1.out.drew.i.item).mono ?_;rintro e3 w3 ⟨yv,rfl,hy,f3⟩;obtain⟨A1,c1,A2,c2,A3,c3,rfl⟩:=hy.form;have C3:=hid (C1.out.go (z01 f3));have F3:=hid (z01 f3);have HY:=hid (hy.less (show B0≤_ from C1.out.d.bz));obtain⟨k0,k1,k2,k3,k4⟩:=five C3.out.b;have k5:=(C3.out.d).three.2.2;have k6:=C3.out.f.cell (HAT.out 1 (by omega)) (by simp);clear f3 hy d0 d1 d2 d3 d4 d5 d6 h0 h1 h2 h3 h4 h5 h6)|(refine(OP.out _ _ C2.out.drew.i.item).mono ?_;rintro e3 w3 ⟨yv,rfl,hy,f3⟩;obtain⟨A1,c1,A2,c2,A3,c3,rfl⟩:=hy.form;have C3:=hid (C2.out.go (z01 f3));have F3:=hid (z2b (z01 f3));have V3:=hid (V2.out.f0 (z01 f3));have y7:=five V3.out;have z7:=z12 V3.out;have HY:=hid (hy.less (show B0≤_ from C2.out.d.bz));obtain⟨k0,k1,k2,k3,k4⟩:=five C3.out.b;have k5:=(C3.out.d).three.2.2;have k6:=C3.out.f.cell (HAT.out 1 (by omega)) (by simp);clear f3 hy d0 d1 d2 d3 d4 d5 d6 h0 h1 h2 h3 h4 h5 h6))))
  all_goals
   go_wp2;go_meet
   case rel=>first|with_reducible exact⟨rfl,rfl,z8u.new HY.out F3.out⟩|exact⟨rfl,rfl,z8u.put HY.out F3.out (by simp) V3.out⟩
 clear d0 d1 d2 d3 d4 d5 d6 h0 h1 h2 h3 h4 h5 h6;obtain⟨rfl,rfl,gb,A1,c1,A2,c2,A3,c3,rfl,hgb,hw,hy,hf⟩:=hcut;have HY:=hid hy;have VB:=hid hw;have C4:=hid (C1.out.go hf);have hgz:w.heap.size < gb:=by have:=C1.out.f.size;simp at hgb;have:=C1.out.gx;omega
 clear hw hy hf hgb;obtain⟨m0,m1,m2,m3,m4⟩:=five VB.out;go_upto_region 12 with fail;go_region_held3 (fun wx=>wx.cell? ⟨gb,0,none⟩=some (.int .i64 y.kind)∧wx.cell? ⟨gb,1,none⟩=some (.string y.text)∧wx.cell? ⟨gb,2,none⟩=some (.slice A1 y.list.length c1)∧wx.cell? ⟨gb,3,none⟩=some (.slice A2 y.pairs.length c2)∧wx.cell? ⟨gb,4,none⟩=some (.slice A3 y.scores.length c3)) (go_keep) ((first|(go_at_call 237;refine(z0m _ _).mono ?_;rintro e5 w5 ⟨rfl,f5⟩;have C5:=hid (C4.out.go (z01 f5));have VB5:=hid (VB.out.f0 (z01 f5));have HY5:=hid (HY.out.go (z01 f5));clear f5 m0 m1 m2 m3 m4;obtain⟨m0,m1,m2,m3,m4⟩:=five VB5.out)|(go_at_call 236;refine(CH.out _ _ _ C5.out.d HY5.out (z19.bare _ _ _ _ _)).mono ?_;rintro e6 w6 ⟨u,rfl,hu,f6,hd⟩;obtain⟨R,rc,rfl⟩:=hu.form;have VB6:=hid (VB5.out.fr f6 (fun hm=>by have:=(H.out.low _ hm).2;omega));have Q6:=hid (C5.out.q.fr f6 (fun hm=>by have:=(H.out.low _ hm).2;omega));have HU:=hid hu;have HD:=hid hd;have F6:=hid (C5.out.f.up.trans f6);clear f6 hu hd m0 m1 m2 m3 m4;obtain⟨m0,m1,m2,m3,m4⟩:=five VB6.out;obtain⟨y0,y1,y2,y3⟩:=four Q6.out;obtain⟨z0,z1,z2,z3⟩:=z0h Q6.out;have hgz1:¬gb=w.heap.size:=(by omega);have hgz2:¬w.heap.size=gb:=(by omega))))
 obtain⟨sp,pr⟩:=pp;go_wp2;refine bodyPost_ret (v:=.agg #[.int .i64 pr.kind,.string pr.text,.int .i64 pr.n,.slice R pr.list.length rc]) (by simp[results,Tryz.results182,go_sem,y0,y1,y2,y3]) rfl ?_;exact ChD.fin4 HU.out F6.out Q6.out hbz HD.out
end
theorem z9f(x:Itm)(v:Value)(w:World)(B:Nat)(hs:x.Small)(hB:B≤w.heap.size)(h:z0r w B v x):
  Calls prog 298 #[v] w fun e w'=>e=.returned (.int .i64 (z02 2 x))∧Fr [] w w':=by
 have M:=hid (fun W (hf:Fr [] w W)=>zi4 x 2 v W B hs (Nat.le_trans hB hf.size) (h.fr hf hB (by simp)));obtain⟨A1,c1,A2,c2,A3,c3,rfl,h1,h2,h3⟩:=h;have F1:Fr [] w (w.alloc (.cells #[.int .i64 x.kind,.string x.text,.slice A1 x.list.length c1,.slice A2 x.pairs.length c2,.slice A3 x.scores.length c3] 65)):=(Fr.refl [] w).alloc _;go_enter Tryz.func298,Tryz.ntmps298;go_wp2_with fail;refine(M.out _ F1).mono ?_;rintro e w1 ⟨rfl,f1⟩;go_wp2;go_ret;exact⟨rfl,F1.trans f1⟩
theorem zne(l:List ByteArray)(A:Option Addr)(c:Nat)(w:World)(B:Nat)(hs:(zfi l).Small)(hB:B≤w.heap.size)(h:Sl w B 1 (.slice A l.length c) l.length (z04 l)):
  Calls prog 301 #[.slice A l.length c] w fun e w'=>e=.returned (if l.length=0 then .agg #[.int .i64 0,.string ⟨#[]⟩,.slice none 0 0,.slice none 0 0,.slice none 0 0] else .agg #[.int .i64 2,.string ⟨#[]⟩,.slice A l.length c,.slice none 0 0,.slice none 0 0])∧Fr [] w w':=by
 have hv:z0r w B (.agg #[.int .i64 2,.string ⟨#[]⟩,.slice A l.length c,.slice none 0 0,.slice none 0 0]) (zfi l):=⟨A,c,none,0,none,0,rfl,h,Sl.nil _ _ _,Sl.nil _ _ _⟩;have O:=hid (fun W (hf:Fr [] w W)=>(show Calls prog 345 #[.agg #[.int .i64 2,.string ⟨#[]⟩,.slice A l.length c,.slice none 0 0,.slice none 0 0]] W fun e w'=>e=.returned (if l.length=0 then .agg #[.int .i64 0,.string ⟨#[]⟩,.slice none 0 0,.slice none 0 0,.slice none 0 0] else .agg #[.int .i64 2,.string ⟨#[]⟩,.slice A l.length c,.slice none 0 0,.slice none 0 0])∧Fr [] W w' from by have:=zm7 (zfi l) (.agg #[.int .i64 2,.string ⟨#[]⟩,.slice A l.length c,.slice none 0 0,.slice none 0 0]) W B hs (Nat.le_trans hB hf.size) (hv.fr hf hB (by simp)) (show(2:Int)≠1 by decide);unfold ofV at this;rw[show many (zfi l)=l.length from by show l.length+0+0=l.length;omega] at this;exact this));have F1:Fr [] w (w.alloc (.cells #[.int .i64 0,.string ⟨#[]⟩,.slice none 0 0,.slice none 0 0,.slice none 0 0] 65)):=(Fr.refl [] w).alloc _;have R1:=hid (show Whole (w.alloc (.cells #[.int .i64 0,.string ⟨#[]⟩,.slice none 0 0,.slice none 0 0,.slice none 0 0] 65)) w.heap.size 65 [.int .i64 0,.string ⟨#[]⟩,.slice none 0 0,.slice none 0 0,.slice none 0 0] from Whole.new w _ _);clear hv h hs;by_cases hm:l.length=0
 ·rw[if_pos hm] at O ⊢;clear hm;go_enter Tryz.func301,Tryz.ntmps301;go_wp2_with fail;refine(O.out _ F1).mono ?_;rintro e w1 ⟨rfl,f1⟩;have F2:=F1.trans f1;have R2:=hid (R1.out.fr f1 (by simp));obtain⟨a0,a1,a2,a3,a4⟩:=five R2.out;obtain⟨b0,b2,b3,b4,b5⟩:=z12 R2.out;go_wp2;refine bodyPost_ret (v:=.agg #[.int .i64 0,.string ⟨#[]⟩,.slice none 0 0,.slice none 0 0,.slice none 0 0]) (by simp[results,Tryz.results301,go_sem,a0,a1,a2,a3,a4]) rfl ?_;refine⟨rfl,z42 F2 (Nat.le_refl _) _ _ _ _ _⟩
 ·rw[if_neg hm] at O ⊢;clear hm;go_enter Tryz.func301,Tryz.ntmps301;go_wp2_with fail;refine(O.out _ F1).mono ?_;rintro e w1 ⟨rfl,f1⟩;have F2:=F1.trans f1;have R2:=hid (R1.out.fr f1 (by simp));obtain⟨a0,a1,a2,a3,a4⟩:=five R2.out;obtain⟨b0,b2,b3,b4,b5⟩:=z12 R2.out;go_wp2;refine bodyPost_ret (v:=.agg #[.int .i64 2,.string ⟨#[]⟩,.slice A l.length c,.slice none 0 0,.slice none 0 0]) (by simp[results,Tryz.results301,go_sem,a0,a1,a2,a3,a4]) rfl ?_;refine⟨rfl,z42 F2 (Nat.le_refl _) _ _ _ _ _⟩
theorem z7x(l:List ByteArray)(base:Nat)(v:Value)(w:World)(hl:l.length≤1000000)(ht:∀s∈l,s.size≤281474976710656)(h:w.ownsRow base 9 1 v l.length (z04 l)):
  Calls prog 301 #[v] w (OwnI base (ofL l) w):=by
 obtain⟨A,c,rfl,-⟩:=z05 h;refine(zne l A c w w.heap.size (z93 hl ht) (Nat.le_refl _) (z0s h)).mono ?_;rintro e w' ⟨rfl,hf⟩;unfold ofL;by_cases h0:l.length=0
 ·rw[if_pos h0,if_pos h0];exact⟨_,rfl,z0q.nothing _ _,hf⟩
 ·rw[if_neg h0,if_neg h0];exact⟨_,rfl,⟨_,_,_,rfl,z0p h hf (by simp),⟨rfl,.inl ⟨rfl,rfl⟩⟩,⟨rfl,.inl ⟨rfl,rfl⟩⟩⟩,hf⟩
def z2d(x:Itm)(f t:Int):List ByteArray:=if z02 2 x=0 then z25 x.list f t else []
def zde(x:Itm)(f t:Int)(w:World)(e:Ending)(w':World):Prop:=
 ∃u,e=.returned (.tuple #[u,.int .i64 (z02 2 x)])∧w'.ownsRow w.heap.size 9 1 u (z2d x f t).length (z04 (z2d x f t))∧Fr [] w w'
theorem z9u(l:List ByteArray)(f t:Int):(((z04 l).drop (z5u l.length f t * 1)).take ((z5q l.length f t - z5u l.length f t) * 1))=z04 (z25 l f t):=by
 unfold z25 z04;rw[Nat.mul_one,Nat.mul_one,List.take_drop,←List.map_take,←List.map_drop];have:=z5s l.length f t;rw[show z5u l.length f t+(z5q l.length f t - z5u l.length f t)=z5q l.length f t by omega]
theorem z9j(x:Itm)(v:Value)(f t:Int)(w:World)(B:Nat)(hs:x.Small)(hB:B≤w.heap.size)(h:z0r w B v x)(hf:-9223372036854775808≤f∧f≤9223372036854775807)(ht:-9223372036854775808≤t∧t≤9223372036854775807):
  Calls prog 250 #[v,.int .i64 f,.int .i64 t] w (zde x f t w):=by
 have RD:=hid (fun W (hf:Fr [] w W)=>z9f x v W B hs (Nat.le_trans hB hf.size) (h.fr hf hB (by simp)));obtain⟨A1,c1,A2,c2,A3,c3,rfl,h1,h2,h3⟩:=h;have D0:=hid (BX.new w (.int .i64 x.kind) (.string x.text) (.slice A1 x.list.length c1) (.slice A2 x.pairs.length c2) (.slice A3 x.scores.length c3));obtain⟨d0,d1,d2,d3,d4⟩:=five D0.out.b;unfold zde z2d;have OK:=hid (fun(h:z02 2 x=0)=>z1j h);have H1:=hid h1;clear h1 h2 h3 hs;by_cases ha:z02 2 x=0
 ·rw[if_pos ha,ha];rw[ha] at RD;have hok:=OK.out ha;have hlen:x.list.length≤24:=by have:=hok.le24;unfold many at this;omega
  have hsp:=z5s x.list.length f t;have SP:=hid (fun W=>zfw x.list.length f t W (by omega) hf ht)
  have HCL:=hid (fun W (hW:Fr [] w W)=>z52 (z5q x.list.length f t - z5u x.list.length f t) _ _ _ W B (by omega) (Nat.le_trans hB hW.size) ((H1.out.fr hW hB (by simp)).cut hsp.1 hsp.2) (by
   rw[z9u];exact z38 _))
  rw[z9u,←z2e x.list f t] at HCL
  have hlc:x.list.length≤c1∧c1≤9223372036854775807:=by
   obtain⟨A',c',e,_,hc,hm,_⟩:=H1.out;cases e;unfold maxLen at hm;exact⟨hc,by omega⟩
  obtain⟨hlc1,hlc2⟩:=hlc;obtain⟨hsp1,hsp2⟩:=hsp;have EL:=hid (z2e x.list f t);clear hok OK ha;rw[EL.out] at HCL;rw[EL.out];generalize z25 x.list f t=r at *;generalize z5u x.list.length f t=a at *;generalize z5q x.list.length f t=b at *;generalize x.list.length=n at *;simp only[Nat.mul_one] at HCL;obtain⟨A',hA⟩:∃A',(if c1=a then A1 else Option.map (fun x=>x.add a) A1)=A':=⟨_,rfl⟩;rw[hA] at HCL;go_enter Tryz.func250,Tryz.ntmps250;go_wp2_with fail;refine(RD.out _ D0.out.f).mono ?_;rintro e w1 ⟨rfl,f1⟩;have D1:=hid (D0.out.go f1);clear d0 d1 d2 d3 d4;obtain⟨d0,d1,d2,d3,d4⟩:=five D1.out.b;go_wp2_with fail;refine(SP.out _).mono ?_;rintro e w2 ⟨rfl,rfl⟩;go_wp2_with fail;refine(HCL.out _ D1.out.f).mono ?_;rintro e w3 ⟨u,rfl,ho,f3⟩;have hz:=D1.out.f.size;go_wp2;go_ret2;exact⟨u,rfl,z16 ho hz,D1.out.f.trans f3⟩
 ·rw[if_neg ha];have q:(z02 2 x != 0)=true:=by simpa using ha
  clear OK ha;generalize z02 2 x=r at *;go_enter Tryz.func250,Tryz.ntmps250;go_wp2_with fail;refine(RD.out _ D0.out.f).mono ?_;rintro e w1 ⟨rfl,f1⟩;have D1:=hid (D0.out.go f1);go_wp2;go_ret2;exact⟨_,rfl,World.ownsRow_nil _ _ _ _,D1.out.f⟩
def q03(code:Int)(y:Itm)(w:World)(e:Ending)(w':World):Prop:=∃u,e=.returned (.tuple #[u,.int .i64 code])∧z0q w' w.heap.size u y∧Fr [] w w'
def q0p(s:ByteArray)(code:Int)(y:Itm)(w:World)(e:Ending)(w':World):Prop:=∃u,e=.returned (.tuple #[u,.string s,.int .i64 code])∧z0q w' w.heap.size u y∧Fr [] w w'
theorem zhp(x:Itm)(v:Value)(f t:Int)(w:World)(B:Nat)(hs:x.Small)(hB:B≤w.heap.size)(h:z0r w B v x)(hf:-9223372036854775808≤f∧f≤9223372036854775807)(ht:-9223372036854775808≤t∧t≤9223372036854775807):
  Calls prog 251 #[v,.int .i64 f,.int .i64 t] w (q03 (z02 2 x) (ofL (z2d x f t)) w):=by
 have RG:=hid (fun W (hW:Fr [] w W)=>z9j x v f t W B hs (Nat.le_trans hB hW.size) (h.fr hW hB (by simp)) hf ht)
 have hsm:(z2d x f t).length≤1000000∧∀s∈z2d x f t,s.size≤281474976710656:=by
  unfold z2d;by_cases ha:z02 2 x=0
  ·rw[if_pos ha];have hok:=z1j ha;refine⟨?_,fun s hs=>by have:=hok.texts s (z6o hs);omega⟩;rw[z2e];have:=z5s x.list.length f t;have:=hok.le24;unfold many at this;omega
  ·rw[if_neg ha];exact⟨by simp,by simp⟩
 have OF:=hid (fun W base u hu=>z7x (z2d x f t) base u W hsm.1 hsm.2 hu);have EZ:=hid (fun(ha:¬z02 2 x=0)=>(show ofL (z2d x f t)=z2p 0 from by unfold z2d;rw[if_neg ha];rfl));unfold zde at RG;obtain⟨A1,c1,A2,c2,A3,c3,rfl,h1,h2,h3⟩:=h;have D0:=hid (BO.new w (.int .i64 x.kind) (.string x.text) (.slice A1 x.list.length c1) (.slice A2 x.pairs.length c2) (.slice A3 x.scores.length c3));obtain⟨d0,d1,d2,d3,d4⟩:=five D0.out.b;clear h1 h2 h3 hs hf ht hsm;generalize ofL (z2d x f t)=y at *;generalize z2d x f t=r at *;generalize z02 2 x=a at *;by_cases ha:a=0
 ·subst ha;clear EZ;go_enter Tryz.func251,Tryz.ntmps251;go_wp2_with fail;refine(RG.out _ D0.out.f).mono ?_;rintro e w1 ⟨u,rfl,ho,f1⟩;have D1:=hid (D0.out.go f1);have hz:=D0.out.lt;have HO:=hid ho;obtain⟨U,cu,rfl,-⟩:=z05 ho;clear d0 d1 d2 d3 d4 ho;go_wp2_with fail;refine(OF.out _ _ _ HO.out).mono ?_;rintro e w2 ⟨u,rfl,hi,f2⟩;have D2:=hid (D1.out.go f2);have HI:=hid hi;obtain⟨P1,p1,P2,p2,P3,p3,rfl⟩:=hi.form;clear hi;obtain⟨a0,a1,a2,a3,a4⟩:=five D2.out.o;obtain⟨b0,b2,b3,b4,b5⟩:=z12 D2.out.o;go_wp2;refine bodyPost_ret (v:=.tuple #[.agg #[.int .i64 y.kind,.string y.text,.slice P1 y.list.length p1,.slice P2 y.pairs.length p2,.slice P3 y.scores.length p3],.int .i64 0]) (by simp[results,Tryz.results251,go_sem,a0,a1,a2,a3,a4]) rfl ?_;exact⟨_,rfl,(z1n HI.out (by omega) _ _ _ _ _).less (by omega),D2.out.end5 _ _ _ _ _⟩
 ·rw[EZ.out ha];have q:(a != 0)=true:=by simpa using ha
  clear EZ OF ha;go_enter Tryz.func251,Tryz.ntmps251;go_wp2_with fail;refine(RG.out _ D0.out.f).mono ?_;rintro e w1 ⟨u,rfl,ho,f1⟩;have D1:=hid (D0.out.go f1);obtain⟨U,cu,rfl,-⟩:=z05 ho;clear d0 d1 d2 d3 d4 ho;obtain⟨a0,a1,a2,a3,a4⟩:=five D1.out.o;obtain⟨b0,b2,b3,b4,b5⟩:=z12 D1.out.o;go_wp2;refine bodyPost_ret (v:=.tuple #[.agg #[.int .i64 0,.string ⟨#[]⟩,.slice none 0 0,.slice none 0 0,.slice none 0 0],.int .i64 a]) (by simp[results,Tryz.results251,go_sem,a0,a1,a2,a3,a4]) rfl ?_;exact⟨_,rfl,z0q.nothing _ _,D1.out.end5 _ _ _ _ _⟩
theorem zje(x:Itm)(l:List ByteArray):(zag x l).Small:=by
 unfold zag;split
 ·rename_i h;obtain⟨h1,h2⟩:=zjf h;unfold ofK;split
  ·exact z1c 0 (by decide)
  ·exact zdb (by decide) (by omega) (fun s hs=>by have:=zcv h1 s hs;omega)
 ·exact z1c 0 (by decide)
theorem zh4(x:Itm)(l:List ByteArray):(z6a 3 x l).Small:=by
 unfold z6a;split
 ·rename_i h;have h1:=(zgp h).2;have h2:(z91 x.list l).length≤x.list.length:=List.length_filter_le _ _;unfold ofK;split
  ·exact z1c 0 (by decide)
  ·exact zdb (by decide) (by omega) (fun s hs=>by have:=(z1j h).texts s (List.mem_filter.1 hs).1;omega)
 ·exact z1c 0 (by decide)
def zte(m:Nat)(ys:List Value)(base:Nat)(v:Value)(w:World)(e:Ending)(w':World):Prop:=
 ∃v',e=.returned v'∧w'.ownsRow base 9 1 v' m ys∧w.grownBy w' v.ownBlock∧v'.ownBlock=v.ownBlock
theorem zeroS:∀w,(zeroValue 9).run prog w=.ok (.string ⟨#[]⟩) w:=fun w=>by kernel_rfl
theorem zw3(n i j:Nat)(xs:List Value)(base:Nat)(v:Value)(w:World)(hn:n≤1000000)(hij:i < j)(hj:j≤n)(h:w.ownsRow base 9 1 v n xs)(h1:∀u∈xs,u.oneCell'=true):
  Calls prog 145 #[v,.int .i64 i,.int .i64 j] w (zte (i+(n - j)) (xs.take (i * 1)++xs.drop (j * 1)) base v w):=by
 obtain⟨i0,hi,hz0,hz1,hz2⟩:=info_parts z3h;obtain⟨A,c,rfl,hA,hc,hm⟩:=z05 h;rcases hA with rfl|⟨g,rfl⟩
 ·exfalso;rcases h.2 with⟨_,h0⟩|⟨g',cap',cur,h',_⟩
  ·omega
  ·cases h'
 obtain⟨cur0,w0,l0,t0,hb0,_,_,hxl⟩:=z24 h;have hdl:(xs.drop (j * 1)).length=(n - j) * 1:=by rw[List.length_drop,hxl];omega
 obtain⟨zs,hzs⟩:∃zs,zs=(Builtin.zeroCells (Value.cells (.string ⟨#[]⟩)) (n - (i+(n - j)))).toList:=⟨_,rfl⟩;have hzl:zs.length=(j - i) * 1:=by rw[hzs];simp[Builtin.zeroCells,Value.cells];omega
 obtain⟨cur1,w1,l1,o2⟩:=zjo (w:=w.drew) h hij hj hzl
 obtain⟨A,hA,hsrc⟩:∃A:Addr,(if c=j then (some ⟨g,0,none⟩:Option Addr) else some ⟨g,j,none⟩)=some A∧Hid (∀t u,(xs.drop (j * 1))[t]? = some u→w.drew.cell? (A.add t)=some u):=by
  by_cases hcj:c=j
  ·refine⟨⟨g,0,none⟩,by simp[hcj],fun t u hu=>?_⟩;have h0:(xs.drop (j * 1)).length=0:=by rw[hdl];omega
   rw[List.length_eq_zero_iff.1 h0] at hu;simp at hu
  ·refine⟨⟨g,j * 1,none⟩,by simp[hcj],fun t u hu=>?_⟩;rw[List.getElem?_drop] at hu;have hlt:=(List.getElem?_eq_some_iff.1 hu).1;have:=(h.cellAt (j * 1+t) (by omega)).trans hu;unfold Addr.add;split
   ·have e:t=0:=by assumption
    subst e;exact this
   ·exact this
 have s1:=hid hdl;have s2:=hid (show ∀u∈xs.drop (j * 1),u.oneCell'=true from fun u hu=>h1 u (List.mem_of_mem_drop hu));have hcn:(i+(n - j)) * 1≤c * 1:=Nat.mul_le_mul_right _ (by omega)
 have s3:=hid (show ∀t,t < (xs.drop (j * 1)).length→(w.drew.cell? ⟨g,0+i * 1+t,none⟩).isSome=true∧w.drew.frozen? ⟨g,0+i * 1+t,none⟩=false from fun t ht=>by
  rw[Nat.zero_add];exact z0n w0 (o:=i * 1) (m:=(n - j) * 1) (by rw[l0];omega) t (by omega))
 obtain⟨W1,hW1⟩:∃W1,W1=w.drew.setCells g (0+i * 1) (xs.drop (j * 1)):=⟨_,rfl⟩
 have hcl:∀ty,(Builtin.clear_ #[24] ty #[.slice (some ⟨g,(i+(n - j)),none⟩) (n - (i+(n - j))) (c - (i+(n - j)))]).run prog W1=.ok (.tuple #[]) (W1.setCells g ((i+(n - j))) zs):=fun ty=>by
  have:=z3f (P:=prog) W1 24 9 ty (.string ⟨#[]⟩) Tryz.underlying24 zeroS (by intro u hu;simp[Value.cells] at hu;rcases hu with rfl|rfl <;> rfl) g ((i+(n - j)) * 1) (n - (i+(n - j))) (c - (i+(n - j))) (by omega) (fun t ht=>by
   rw[hW1,Nat.zero_add];exact z0n (w:=(w.drew.setCells g (i * 1) (xs.drop (j * 1)))) w1 (o:=(i+(n - j)) * 1) (m:=(n - (i+(n - j))) * 1) (by rw[l1];omega) t (by simpa[Value.cells] using ht))
  rw[←hzs,show(i+(n - j)) * 1=(i+(n - j)) by omega] at this;exact this
 rw[show(i+(n - j)) * 1=(i+(n - j)) by omega] at o2;have O2:=hid o2;have HW:=hid hW1;have hic:i≤c:=by omega
 have hjc:j≤c:=by omega
 have hlt:i < j:=hij;unfold maxLen at hm;clear h h1 cur0 w0 l0 t0 hb0 hxl hdl hzs hzl w1 l1 o2 cur1 hW1 hcn;go_enter Tryz.func145,Tryz.ntmps145;go_wp2_with fail
 go_region_law (refine step_append_room rfl (.tmp 22) (.tmp 25) 24 rfl 9 i0 1 Tryz.underlying24 hi hz1 g 0 i c (by simp[Act.eval,Act.put]) A (n - j) (c - j) (xs.drop (j * 1)) (by simp[Act.eval,Act.put]) s1.out hsrc.out s2.out (by omega) s3.out ?_;rw[←HW.out])
 go_wp2;go_ret;have e1:=HW.out;rw[Nat.zero_add] at e1;subst e1;exact⟨_,rfl,O2.out,z23 ((z08 _ _ _).trans (z08 _ _ _)),rfl⟩
theorem zgz(l:List ByteArray)(i:Nat):(z04 l).take (i * 1)=z04 (l.take i):=by simp[z04,List.map_take]
theorem zj0(l:List ByteArray)(i:Nat):(z04 l).drop (i * 1)=z04 (l.drop i):=by simp[z04,List.map_drop]
def without{α:Type}(l:List α)(i:Nat):List α:=l.take i++l.drop (i+1)
theorem z8h{α:Type}(l:List α)(i:Nat)(h:i < l.length):(without l i).length=l.length - 1:=by
 unfold without;rw[List.length_append,List.length_take,List.length_drop];omega
theorem zk2{α:Type}{l:List α}{i:Nat}{s:α}(h:s∈without l i):s∈l:=by
 unfold without at h;rcases List.mem_append.1 h with h|h
 ·exact List.mem_of_mem_take h
 ·exact List.mem_of_mem_drop h
def zzl(T size m:Nat)(ys:List Value)(base:Nat)(v:Value)(w:World)(e:Ending)(w':World):Prop:=
 ∃v',e=.returned v'∧w'.ownsRow base T size v' m ys∧w.grownBy w' v.ownBlock∧v'.ownBlock=v.ownBlock
theorem zvo(l:List ByteArray)(i:Nat)(base:Nat)(v:Value)(w:World)(hl:l.length≤1000000)(hi:i < l.length)(h:w.ownsRow base 9 1 v l.length (z04 l)):
  Calls prog 145 #[v,.int .i64 i,.int .i64 ((i:Int)+1)] w (zzl 9 1 (without l i).length (z04 (without l i)) base v w):=by
 have:=zw3 l.length i (i+1) (z04 l) base v w hl (by omega) (by omega) h (z38 l);rw[zgz,zj0,←z4r,show i+(l.length - (i+1))=(without l i).length by rw[z8h l i hi];omega] at this;exact this
theorem zto{x:Itm}(hok:AsOk 2 x)(hk:x.kind≠0):0 < x.list.length:=by
 have hc:=hok.some hk;have hk2:x.kind=2:=by rcases hok.kind with h|h;exact absurd h hk;exact h
 have hb:=hok.bare;unfold z0e at hc;rw[if_neg (by omega),if_neg (by rw[hb];decide),if_neg (by omega)] at hc;by_cases hm:many x=0
 ·rw[if_pos hm] at hc;cases hc
 ·unfold z6k at hb;rw[hk2] at hb;simp at hb;obtain⟨⟨_,e3⟩,e4⟩:=hb;unfold many at hm;rw[e3,e4] at hm;simp at hm;exact List.length_pos_iff.2 hm
theorem zkf(x:Itm)(left:Bool)(h:0 < x.list.length):zt3 x left=without x.list (if left then 0 else x.list.length - 1):=by
 unfold zt3 without;cases left
 ·simp;omega
 ·simp
theorem zjq(x:Itm)(v:Value)(left:Bool)(w:World)(B:Nat)(hs:x.Small)(hB:B≤w.heap.size)(h:z0r w B v x):
  Calls prog 248 #[v,.bool left] w (q0p (zt5 x left) (z1r x) (zei x left) w):=by
 have RD:=hid (fun W (hf:Fr [] w W)=>z9f x v W B hs (Nat.le_trans hB hf.size) (h.fr hf hB (by simp)));obtain⟨A1,c1,A2,c2,A3,c3,rfl,h1,h2,h3⟩:=h;have H1:=hid h1;have D0:=hid (BO.new w (.int .i64 x.kind) (.string x.text) (.slice A1 x.list.length c1) (.slice A2 x.pairs.length c2) (.slice A3 x.scores.length c3));obtain⟨d0,d1,d2,d3,d4⟩:=five D0.out.b;have EC:=hid (show z1r x=if z02 2 x≠0 then z02 2 x else if x.kind=0 then 5 else 0 from rfl);have EY:=hid (show zei x left=if z1r x=0 then ofL (zt3 x left) else z2p 0 from rfl);have EK:=hid (show zt5 x left=if z1r x=0 then zzm x left else ⟨#[]⟩ from rfl);have hs1:=hs.list;clear h1 h2 h3 hs
 have no0:∀c:Int,c≠0→z1r x=c→zei x left=z2p 0∧zt5 x left=⟨#[]⟩:=fun c hc he=>by
  have h0:z1r x≠0:=by rw[he];exact hc
  exact⟨by rw[EY.out,if_neg h0],by rw[EK.out,if_neg h0]⟩
 have NO:=hid no0;clear no0;by_cases ha:z02 2 x=0
 ·have hok:=z1j ha;rw[ha] at RD;by_cases hk:x.kind=0
  ·have E:=hid (show z1r x=5 from by rw[EC.out,if_neg (by simpa using ha),if_pos hk]);obtain⟨e1,e2⟩:=NO.out 5 (by decide) E.out;rw[e1,e2,E.out];have q:(x.kind==0)=true:=by simpa using hk
   clear e1 e2 E EC EY EK ha hk NO hok;generalize x.kind=k at *;go_enter Tryz.func248,Tryz.ntmps248;go_wp2_with fail;refine(RD.out _ D0.out.f).mono ?_;rintro e w1 ⟨rfl,f1⟩;have D1:=hid (D0.out.go f1);clear d0 d1 d2 d3 d4;obtain⟨d0,d1,d2,d3,d4⟩:=five D1.out.b;obtain⟨a0,a1,a2,a3,a4⟩:=five D1.out.o;obtain⟨b0,b2,b3,b4,b5⟩:=z12 D1.out.o;go_wp2;refine bodyPost_ret (v:=.tuple #[.agg #[.int .i64 0,.string ⟨#[]⟩,.slice none 0 0,.slice none 0 0,.slice none 0 0],.string ⟨#[]⟩,.int .i64 5]) (by simp[results,Tryz.results248,go_sem,a0,a1,a2,a3,a4]) rfl ?_;exact⟨_,rfl,z0q.nothing _ _,D1.out.end5 _ _ _ _ _⟩
  ·have E:=hid (show z1r x=0 from by rw[EC.out,if_neg (by simpa using ha),if_neg hk]);have q:(x.kind==0)=false:=by simpa using hk
   have hpos:=zto hok hk;have h24:x.list.length≤24:=by have:=hok.le24;unfold many at this;omega
   obtain⟨b,off,rfl,hb,hlc,hcm,hcell⟩:=H1.out.at_ hpos;rw[EY.out,EK.out,E.out,if_pos rfl,if_pos rfl];obtain⟨i,hi⟩:∃i,i=if left then 0 else x.list.length - 1:=⟨_,rfl⟩
   have hil:i < x.list.length:=by rw[hi];split <;> omega
   obtain⟨s,hs⟩:∃s,x.list[i]? = some s:=⟨_,List.getElem?_eq_getElem hil⟩;have hps:zzm x left=s:=by unfold zzm;rw[←hi,List.getD_eq_getElem?_getD,hs];rfl
   have hpl:zt3 x left=without x.list i:=by rw[zkf x left hpos,hi]
   rw[hps,hpl]
   have OF:=hid (fun W base u hu=>z7x (without x.list i) base u W (by rw[z8h _ _ hil];omega) (fun s hs=>by
    have:=hok.texts s (zk2 hs);omega) hu)
   have DL:=hid (fun W base u hu=>zvo x.list i base u W (by omega) hil hu);have CL:=hid (fun W (hW:Fr [] w W)=>z52 x.list.length (z04 x.list) (some ⟨b,off,none⟩) c1 W B (by omega) (Nat.le_trans hB hW.size) (H1.out.fr hW hB (by simp)) (z38 _));have hcs:w.cell? ⟨b,off+i,none⟩=some (.string s):=hcell i _ (z1b _ i s hs);have HCS:=hid hcs;unfold maxLen at hcm;clear hok E EC EY EK ha hk NO hps hpl hcell hs hcs;generalize ofL (without x.list i)=y at *;cases left
   ·have hie:(i:Int)=((x.list.length:Int) - 1):=by rw[hi];simp;omega
    have hi0:=hi;clear hi0;have HIE:=hid hie;have hoff:off+i < off+x.list.length:=by omega
    clear hi hie;go_enter Tryz.func248,Tryz.ntmps248;go_wp2_with fail;refine(RD.out _ D0.out.f).mono ?_;rintro e w1 ⟨rfl,f1⟩;have D1:=hid (D0.out.go f1);have hz1:=D1.out.lt;clear d0 d1 d2 d3 d4;obtain⟨d0,d1,d2,d3,d4⟩:=five D1.out.b;have hc1:w1.cell? ⟨b,off+i,none⟩=some (.string s):=D1.out.f.cell HCS.out (by simp);have hne1:¬b=w.heap.size+1:=by omega
    have hne2:¬w.heap.size+1=b:=by omega
    go_wp2;rw[←HIE.out];clear HIE;have hwr:IntKind.i64.wrap ((i:Int)+1)=(i:Int)+1:=IntWalk.i64_in _ (by omega);rw[←hwr] at DL;clear hwr;go_region_held3 (fun wx=>wx.cell? ⟨w.heap.size,2,none⟩=some (.slice (some ⟨b,off,none⟩) x.list.length c1)∧wx.cell? ⟨b,off+i,none⟩=some (.string s)) (go_keep) (first|(go_at_call 139;(refine(CL.out _ D1.out.f.drew).mono ?_);rintro e w3 ⟨u,rfl,ho,f3⟩;have D3:=hid (D1.out.go (z01 f3));clear d0 d1 d2 d3 d4 hc1 f3;obtain⟨d0,d1,d2,d3,d4⟩:=five D3.out.b;have hc1:w3.cell? ⟨b,off+i,none⟩=some (.string s):=D3.out.f.cell HCS.out (by simp);have HO:=hid (show w3.ownsRow w1.heap.size _ _ _ _ _ from ho);obtain⟨U,cu,rfl,-⟩:=z05 ho;clear ho)|(go_at_call 145;(refine(DL.out _ _ _ HO.out).mono ?_);rintro e w4 ⟨u4,rfl,ho4,hg4,-⟩;have D4:=hid (D3.out.step (z3p hg4) (fun g hg=>by have:=z1f HO.out hg;omega));clear d0 d1 d2 d3 d4 hc1 hg4;obtain⟨d0,d1,d2,d3,d4⟩:=five D4.out.b;have hc1:w4.cell? ⟨b,off+i,none⟩=some (.string s):=D4.out.f.cell HCS.out (by simp);have HO4:=hid ho4;obtain⟨U4,cu4,rfl,-⟩:=z05 ho4;clear ho4)|(go_at_call 301;(refine(OF.out _ _ _ HO4.out).mono ?_);rintro e w5 ⟨u5,rfl,hi,f5⟩;have D5:=hid (D4.out.go f5);clear d0 d1 d2 d3 d4 hc1 f5;obtain⟨d0,d1,d2,d3,d4⟩:=five D5.out.b;have hc1:w5.cell? ⟨b,off+i,none⟩=some (.string s):=D5.out.f.cell HCS.out (by simp);have HI:=hid hi;obtain⟨P1,p1,P2,p2,P3,p3,rfl⟩:=hi.form;clear hi;obtain⟨a0,a1,a2,a3,a4⟩:=five D5.out.o;obtain⟨b0,b2,b3,b4,b5⟩:=z12 D5.out.o))
    go_wp2;refine bodyPost_ret (v:=.tuple #[.agg #[.int .i64 y.kind,.string y.text,.slice P1 y.list.length p1,.slice P2 y.pairs.length p2,.slice P3 y.scores.length p3],.string s,.int .i64 0]) (by simp[results,Tryz.results248,go_sem,a0,a1,a2,a3,a4]) rfl ?_;exact⟨_,rfl,(z1n HI.out (by omega) _ _ _ _ _).less (by omega),D5.out.end5 _ _ _ _ _⟩
   ·have hie:(i:Int)=0:=by rw[hi];simp
    obtain rfl:i=0:=by omega
    rw[hie,Int.zero_add] at DL;have hoff:off+0 < off+x.list.length:=by omega
    clear hi hie;go_enter Tryz.func248,Tryz.ntmps248;go_wp2_with fail;refine(RD.out _ D0.out.f).mono ?_;rintro e w1 ⟨rfl,f1⟩;have D1:=hid (D0.out.go f1);have hz1:=D1.out.lt;clear d0 d1 d2 d3 d4;obtain⟨d0,d1,d2,d3,d4⟩:=five D1.out.b;have hc1:w1.cell? ⟨b,off,none⟩=some (.string s):=D1.out.f.cell HCS.out (by simp);have hne1:¬b=w.heap.size+1:=by omega
    have hne2:¬w.heap.size+1=b:=by omega
    go_wp2;go_region_held3 (fun wx=>wx.cell? ⟨w.heap.size,2,none⟩=some (.slice (some ⟨b,off,none⟩) x.list.length c1)∧wx.cell? ⟨b,off,none⟩=some (.string s)) (go_keep) (first|(go_at_call 139;(refine(CL.out _ D1.out.f.drew).mono ?_);rintro e w3 ⟨u,rfl,ho,f3⟩;have D3:=hid (D1.out.go (z01 f3));clear d0 d1 d2 d3 d4 hc1 f3;obtain⟨d0,d1,d2,d3,d4⟩:=five D3.out.b;have hc1:w3.cell? ⟨b,off,none⟩=some (.string s):=D3.out.f.cell HCS.out (by simp);have HO:=hid (show w3.ownsRow w1.heap.size _ _ _ _ _ from ho);obtain⟨U,cu,rfl,-⟩:=z05 ho;clear ho)|(go_at_call 145;(refine(DL.out _ _ _ HO.out).mono ?_);rintro e w4 ⟨u4,rfl,ho4,hg4,-⟩;have D4:=hid (D3.out.step (z3p hg4) (fun g hg=>by have:=z1f HO.out hg;omega));clear d0 d1 d2 d3 d4 hc1 hg4;obtain⟨d0,d1,d2,d3,d4⟩:=five D4.out.b;have hc1:w4.cell? ⟨b,off,none⟩=some (.string s):=D4.out.f.cell HCS.out (by simp);have HO4:=hid ho4;obtain⟨U4,cu4,rfl,-⟩:=z05 ho4;clear ho4)|(go_at_call 301;(refine(OF.out _ _ _ HO4.out).mono ?_);rintro e w5 ⟨u5,rfl,hi,f5⟩;have D5:=hid (D4.out.go f5);clear d0 d1 d2 d3 d4 hc1 f5;obtain⟨d0,d1,d2,d3,d4⟩:=five D5.out.b;have hc1:w5.cell? ⟨b,off,none⟩=some (.string s):=D5.out.f.cell HCS.out (by simp);have HI:=hid hi;obtain⟨P1,p1,P2,p2,P3,p3,rfl⟩:=hi.form;clear hi;obtain⟨a0,a1,a2,a3,a4⟩:=five D5.out.o;obtain⟨b0,b2,b3,b4,b5⟩:=z12 D5.out.o))
    go_wp2;refine bodyPost_ret (v:=.tuple #[.agg #[.int .i64 y.kind,.string y.text,.slice P1 y.list.length p1,.slice P2 y.pairs.length p2,.slice P3 y.scores.length p3],.string s,.int .i64 0]) (by simp[results,Tryz.results248,go_sem,a0,a1,a2,a3,a4]) rfl ?_;exact⟨_,rfl,(z1n HI.out (by omega) _ _ _ _ _).less (by omega),D5.out.end5 _ _ _ _ _⟩
 ·have E:=hid (show z1r x=z02 2 x from by rw[EC.out,if_pos ha]);obtain⟨e1,e2⟩:=NO.out _ ha E.out;rw[e1,e2,E.out];have q:(z02 2 x==0)=false:=by simpa using ha
  have q2:(z02 2 x != 0)=true:=by simpa using ha
  clear e1 e2 E EC EY EK ha NO;generalize z02 2 x=r at *;go_enter Tryz.func248,Tryz.ntmps248;go_wp2_with fail;refine(RD.out _ D0.out.f).mono ?_;rintro e w1 ⟨rfl,f1⟩;have D1:=hid (D0.out.go f1);clear d0 d1 d2 d3 d4;obtain⟨a0,a1,a2,a3,a4⟩:=five D1.out.o;obtain⟨b0,b2,b3,b4,b5⟩:=z12 D1.out.o;go_wp2;refine bodyPost_ret (v:=.tuple #[.agg #[.int .i64 0,.string ⟨#[]⟩,.slice none 0 0,.slice none 0 0,.slice none 0 0],.string ⟨#[]⟩,.int .i64 r]) (by simp[results,Tryz.results248,go_sem,a0,a1,a2,a3,a4]) rfl ?_;exact⟨_,rfl,z0q.nothing _ _,D1.out.end5 _ _ _ _ _⟩
theorem z9x{l:List ByteArray}(hl:l.length≤1000000)(ht:∀s∈l,s.size≤281474976710656):(ofL l).Small:=by
 unfold ofL;split
 ·exact z1c 0 (by decide)
 ·exact z93 hl ht
theorem zjy(x:Itm)(left:Bool)(l:List ByteArray):(z8w x left l).Small:=by
 unfold z8w;by_cases hc:z14 x l=0
 ·rw[if_pos hc];unfold z14 at hc;by_cases ha:z02 2 x=0
  ·rw[if_neg (by simpa using ha)] at hc;by_cases hb:z13 l=0
   ·rw[if_neg (by simpa using hb)] at hc;have hok:=z1j ha;have hos:=z67 hb;have hm:¬24 < x.list.length+l.length:=fun h=>by rw[if_pos h] at hc;cases hc
    refine z9x (by rw[z43];omega) (fun s hs=>?_);rcases zgh hs with h|h
    ·have:=hok.texts s h;omega
    ·have:=hos s h;omega
   ·rw[if_pos hb] at hc;exact absurd hc hb
  ·rw[if_pos ha] at hc;exact absurd hc ha
 ·rw[if_neg hc];exact z1c 0 (by decide)
theorem zo8{x:Itm}(h:z1r x=0):z02 2 x=0:=by
 unfold z1r at h;by_cases ha:z02 2 x=0
 ·exact ha
 ·rw[if_pos ha] at h;exact absurd h ha
theorem zy8{x:Itm}{left:Bool}{s:ByteArray}(h:s∈zt3 x left):s∈x.list:=by
 unfold zt3 at h;cases left
 ·exact List.mem_of_mem_take h
 ·exact List.mem_of_mem_drop h
theorem zzy(x:Itm)(left:Bool):(zt3 x left).length≤x.list.length:=by
 unfold zt3;cases left <;> simp
theorem zns(x:Itm)(left:Bool):(zei x left).Small:=by
 unfold zei;by_cases hc:z1r x=0
 ·rw[if_pos hc];have hok:=z1j (zo8 hc);have:=hok.le24;unfold many at this;refine z9x (by have:=zzy x left;omega) (fun s hs=>by have:=hok.texts s (zy8 hs);omega)
 ·rw[if_neg hc];exact z1c 0 (by decide)
theorem zo7(x:Itm)(s:ByteArray):(zot x s).Small:=by
 unfold zot;by_cases hc:z02 2 x=0
 ·rw[if_pos hc];have hok:=z1j hc;have:=hok.le24;unfold many at this;refine z9x (by have:(zo0 x s).length≤x.list.length:=List.length_filter_le _ _;omega) (fun y hy=>by have:=hok.texts y (List.mem_filter.1 hy).1;omega)
 ·rw[if_neg hc];exact z1c 0 (by decide)
theorem zdt(x:Itm)(f t:Int):(z2d x f t).length≤24∧∀s∈z2d x f t,s.size≤281474976710656:=by
 unfold z2d;by_cases ha:z02 2 x=0
 ·rw[if_pos ha];have hok:=z1j ha;refine⟨?_,fun s hs=>by have:=hok.texts s (z6o hs);omega⟩;rw[z2e];have:=z5s x.list.length f t;have:=hok.le24;unfold many at this;omega
 ·rw[if_neg ha];exact⟨by simp,by simp⟩
theorem ziy{l:List (ByteArray×ByteArray)}(hl:l.length≤1000000)(ht:∀s∈l,s.1.size≤281474976710656∧s.2.size≤281474976710656):(ofP l).Small:=by
 unfold ofP;split
 ·exact z1c 0 (by decide)
 ·exact zdm hl ht
theorem zxd{x:Itm}{l:List (ByteArray×ByteArray)}(h:z1w x l=0):z02 4 x=0∧¬l.any z4n=true:=by
 unfold z1w at h;by_cases ha:z02 4 x=0
 ·rw[if_neg (by simpa using ha)] at h;by_cases hb:l.length=0
  ·rw[if_pos hb] at h;cases h
  ·rw[if_neg hb] at h;by_cases hc:l.any z4n=true
   ·rw[if_pos hc] at h;cases h
   ·exact⟨ha,hc⟩
 ·rw[if_pos ha] at h;exact absurd h ha
theorem putOk{x:Itm}{l:List (ByteArray×ByteArray)}(h:z1p x l=0):z1w x l=0∧(zqo x l).length≤24:=by
 unfold z1p at h;by_cases ha:z1w x l=0
 ·rw[if_neg (by simpa using ha)] at h;by_cases hb:24 < (zqo x l).length
  ·rw[if_pos hb] at h;cases h
  ·exact⟨ha,by omega⟩
 ·rw[if_pos ha] at h;exact absurd h ha
theorem zni{x:Itm}{l:List (ByteArray×ByteArray)}(h:z1w x l=0):∀s∈zqo x l,s.1.size≤60∧s.2.size≤60:=fun s hs=>by
 obtain⟨ha,hc⟩:=zxd h;rcases zca _ _ hs with h|h
 ·exact zg2 hc s h
 ·exact(z9p ha).2 s h
theorem znv(x:Itm)(l:List (ByteArray×ByteArray)):(zlk x l).Small:=by
 unfold zlk;split
 ·rename_i h;obtain⟨hp,h24⟩:=putOk h;exact ziy (by omega) (fun s hs=>by have:=zni hp s hs;omega)
 ·exact z1c 0 (by decide)
theorem zky(x:Itm)(l:List ByteArray):(zaj x l).Small:=by
 unfold zaj;split
 ·rename_i h;have hok:=z9p h;have:=List.length_filter_le (fun p:ByteArray×ByteArray=>!(l.any fun y=>decide (y=p.1))) x.pairs;exact ziy (by unfold zaq;omega) (fun s hs=>by have:=hok.2 s (List.mem_filter.1 hs).1;omega)
 ·exact z1c 0 (by decide)
def Turned(l d:List ByteArray)(m:Nat):Prop:=d.length=l.length∧∀t,t < l.length→d[t]? = if t < m∨l.length < t+1+m then l[l.length - 1 - t]? else l[t]?
theorem zkt(l:List ByteArray):Turned l l 0:=⟨rfl,fun t ht=>by rw[if_neg (by omega)]⟩
theorem zko{l d:List ByteArray}{m:Nat}{a b:ByteArray}(h:Turned l d m)(hm:m+1+m < l.length)(ha:d[m]? = some a)(hb:d[l.length - 1 - m]? = some b):
  Turned l ((d.set m b).set (l.length - 1 - m) a) (m+1):=by
 refine⟨by simp[h.1],fun t ht=>?_⟩;have hl:=h.1;have e1:=h.2 m (by omega);have e2:=h.2 (l.length - 1 - m) (by omega);rw[if_neg (by omega),ha] at e1;rw[if_neg (by omega),hb] at e2;by_cases h1:t=l.length - 1 - m
 ·rw[h1,List.getElem?_set_self (by simp;omega),if_pos (by omega),show l.length - 1 - (l.length - 1 - m)=m by omega];exact e1
 ·rw[List.getElem?_set_ne (by omega)];by_cases h2:t=m
  ·rw[h2,List.getElem?_set_self (by omega),if_pos (by omega)];exact e2
  ·rw[List.getElem?_set_ne (by omega),h.2 t ht];by_cases h3:t < m∨l.length < t+1+m
   ·rw[if_pos h3,if_pos (by omega)]
   ·rw[if_neg h3,if_neg (by omega)]
theorem zos{l d:List ByteArray}{m:Nat}(h:Turned l d m)(hm:l.length≤m+1+m):d=l.reverse:=by
 apply List.ext_getElem?;intro t;by_cases ht:t < l.length
 ·rw[h.2 t ht,List.getElem?_reverse ht];by_cases h3:t < m∨l.length < t+1+m
  ·rw[if_pos h3]
  ·rw[if_neg h3];congr 1;omega
 ·rw[List.getElem?_eq_none (by have:=h.1;omega),List.getElem?_eq_none (by simp;omega)]
def zy9(l:List ByteArray)(base:Nat)(v:Value)(w:World)(e:Ending)(w':World):Prop:=e=.returned (.tuple #[])∧w'.ownsRow base 9 1 v l.length (z04 l.reverse)∧w.grownBy w' v.ownBlock
theorem zyg(l:List ByteArray)(base:Nat)(v:Value)(w:World)(hl:l.length≤1000000)(h:w.ownsRow base 9 1 v l.length (z04 l)):
  Calls prog 300 #[v] w (zy9 l base v w):=by
 obtain⟨A,c,rfl,hA,hc,hm⟩:=z05 h;rcases hA with rfl|⟨g,rfl⟩
 ·have h0:l.length=0:=by
   rcases h.2 with⟨_,h0⟩|⟨g',cap',cur,h',_⟩
   ·exact h0
   ·cases h'
  obtain rfl:l=[]:=List.eq_nil_of_length_eq_zero h0;have H:=hid h;clear h h0;go_enter Tryz.func300,Tryz.ntmps300;go_wp2;go_loopg [2,3] 0 (fun _ s2 s3 wr=>s2=.int .i64 0∧s3=.int .i64 (-1)∧wr=w)
  case atStart=>exact⟨rfl,rfl,rfl⟩
  case round=>
   obtain⟨rfl,rfl,rfl⟩:=hrel;go_wp2
   go_end0
   exact⟨rfl,H.out,z87 _ _⟩
 ·have H:=hid h;clear h;go_enter Tryz.func300,Tryz.ntmps300;go_wp2
  go_loopg [2,3] l.length (fun k s2 s3 wr=>∃(m:Nat) (d:List ByteArray),k=l.length - m∧m≤l.length∧s2=.int .i64 m∧s3=.int .i64 ((l.length:Int) - 1 - (m:Int))∧Turned l d m ∧
   wr.ownsRow base 9 1 (.slice (some ⟨g,0,none⟩) l.length c) l.length (z04 d)∧w.grownBy wr (some g))
  case atStart=>exact⟨0,l,rfl,Nat.zero_le _,rfl,by simp,zkt l,H.out,z87 _ _⟩
  case round=>
   obtain⟨m,d,rfl,hml,rfl,rfl,hT,ho,hg⟩:=hrel;have HT:=hid hT;have hdl:=hT.1;by_cases hlt:m+1+m < l.length
   ·obtain⟨a,ha⟩:∃a,d[m]? = some a:=⟨_,List.getElem?_eq_getElem (by omega)⟩;obtain⟨b,hb⟩:∃b,d[l.length - 1 - m]? = some b:=⟨_,List.getElem?_eq_getElem (by omega)⟩;obtain⟨j,hj⟩:∃j,j=l.length - 1 - m:=⟨_,rfl⟩;have c1:wr.cell? ⟨g,m,none⟩=some (.string a):=(ho.cellAt m (by omega)).trans (z1b d m a ha);have c2:wr.cell? ⟨g,j,none⟩=some (.string b):=(ho.cellAt j (by omega)).trans (z1b d j b (by rw[hj];exact hb));have f1:=ho.frozenAt m;have f2:=ho.frozenAt j;have HA:=hid ha;have HB:=hid hb;have HO:=hid ho;have HG:=hid hg;have ej:(l.length:Int) - 1 - (m:Int)=(j:Int):=by omega
    rw[ej];have hjl:j < l.length:=by omega
    have hmj:m < j:=by omega
    have HJ:=hid hj;clear hT ho hg ha hb hj ej hdl;go_wp2_with fail
    go_region
    go_wp2;go_roundg (l.length - (m+1))
    case measure=>omega
    case rel=>
     have o1:=(HO.out.stored m (.string b));have o2:=(o1.1.stored j (.string a));have N:=zko HT.out hlt HA.out HB.out;have hj:=HJ.out;refine⟨m+1,(d.set m b).set j a,rfl,by omega,by simp,?_,by rw[hj];exact N,by rw[zb0,zb0];exact o2.1,z88 ((HG.out.trans o1.2).trans o2.2)⟩;congr 1;omega
   ·have N:=zos HT.out (by omega);clear hT hdl;have HO:=hid ho;have HG:=hid hg;have HN:=hid N;clear ho hg N;go_wp2
    go_end0
    exact⟨rfl,by rw[←HN.out];exact HO.out,HG.out⟩
end Go.Proofs.YtmalkppcahogjaaGreatDoor
