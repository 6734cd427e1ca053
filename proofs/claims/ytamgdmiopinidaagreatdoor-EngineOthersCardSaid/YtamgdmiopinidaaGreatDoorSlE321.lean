/- Contracts that the proof of E3 uses. No condition beyond those in each theorem. -/
import Derived.Test.YtamgdmiopinidaaGreatDoorSlE320
set_option linter.unusedVariables false
set_option linter.unusedSimpArgs false
set_option maxHeartbeats 8000000
set_option maxRecDepth 100000
namespace Go.Proofs.YtamgdmiopinidaaGreatDoor
open Lib (hid)
open Go.Proofs.Tryz (prog)
open Go.RowKit
attribute [local go_sem] z1k
theorem z7v{w:World}{base e size n:Nat}{v:Value}{xs:List Value}(h:w.ownsRow base e size v n xs){p:Addr}(hp:p.block < base)(u:Value):(w.setCell p u).ownsRow base e size v n xs:=
 z22 u h (fun he=>by have:=(h.lt _ he).1;omega)
theorem zkv{w:World}{base e size n o:Nat}{v:Value}{xs:List Value}(h:w.ownsRow base e size v n xs)(ho:o < base)(a b c d:Value):(set4 w o a b c d).ownsRow base e size v n xs:=
 z7v (z7v (z7v (z7v h ho _) ho _) ho _) ho _
theorem zgy(l:List Rp1)(x:Rp1):z72 (l++[x])=z72 l++rp4 x none 0:=by simp[z72]
theorem zuo(k n:Int)(t:ByteArray):∀u∈[Value.int .i64 k,.string t,.int .i64 n,.slice none 0 0],u.oneCell'=true:=by
 intro u hu
 simp at hu
 rcases hu with rfl|rfl|rfl|rfl <;> rfl
attribute [local go_sem] z1k
theorem z1f.set4{w:World}{base o:Nat}{v:Value}{r:Rep}(h:z1f w base v r)(ho:o < base)(a b c d:Value):z1f (set4 w o a b c d) base v r:=by
 obtain⟨h0,u,rfl,hw⟩:=h
 exact⟨h0,_,rfl,zkv hw ho _ _ _ _⟩
attribute [local go_sem] z1k
attribute [local go_sem] z1k
attribute [local go_sem] z1k
theorem z3s(w:World)(o:Obj)(t:TypeId)(cs:List Value):Whole ((w.alloc o).alloc (.cells cs.toArray t)) (w.heap.size+1) t cs:=by
 have:=Whole.new (w.alloc o) t cs
 rwa[show(w.alloc o).heap.size=w.heap.size+1 from by simp] at this
theorem zqi(k n:Int)(t:ByteArray)(A A':Option Addr)(c c':Nat)(w:World) :
  Calls prog 15 #[.agg #[.int .i64 k,.string t,.int .i64 n,.slice A 0 c],.agg #[.int .i64 k,.string t,.int .i64 n,.slice A' 0 c']] w fun e w'=>e=.returned (.bool true)∧Fr [] w w':=by
 have F1:=hid (((Fr.refl [] w).alloc (.cells #[.int .i64 k,.string t,.int .i64 n,.slice A 0 c] 27)).alloc (.cells #[.int .i64 k,.string t,.int .i64 n,.slice A' 0 c'] 27))
 go_enter Tryz.func15,Tryz.ntmps15
 go_wp2
 go_loopg [5] 0 (fun x i wr=>x=0∧i=.int .i64 0∧wr=(w.alloc (.cells #[.int .i64 k,.string t,.int .i64 n,.slice A 0 c] 27)).alloc (.cells #[.int .i64 k,.string t,.int .i64 n,.slice A' 0 c'] 27))
 case atStart=>exact⟨rfl,rfl,rfl⟩
 case round=>
  obtain⟨rfl,rfl,rfl⟩:=hrel
  go_wp2
  go_ret
  exact⟨rfl,F1.out⟩
theorem zep(r:Rep)(v u:Value)(w:World)(B:Nat)(hl:r.list.length≤281474976710656)(h0:∀x∈r.list,x.sub=0)(hB:B≤w.heap.size)(h:zca w B v r)(k:zca w B u r) :
  Calls prog 15 #[v,u] w fun e w'=>e=.returned (.bool true)∧Fr [] w w':=by
 obtain⟨A,c,rfl⟩:=h.form
 obtain⟨A',c',rfl⟩:=k.form
 have F1:=hid (((Fr.refl [] w).alloc (.cells #[.int .i64 r.kind,.string r.text,.int .i64 r.n,.slice A r.list.length c] 27)).alloc (.cells #[.int .i64 r.kind,.string r.text,.int .i64 r.n,.slice A' r.list.length c'] 27))
 have V1:=hid (show Whole ((w.alloc (.cells #[.int .i64 r.kind,.string r.text,.int .i64 r.n,.slice A r.list.length c] 27)).alloc (.cells #[.int .i64 r.kind,.string r.text,.int .i64 r.n,.slice A' r.list.length c'] 27)) w.heap.size 27 [.int .i64 r.kind,.string r.text,.int .i64 r.n,.slice A r.list.length c] from Whole.alloc (Whole.new w _ _) _)
 have V2:=hid (z3s w (.cells #[.int .i64 r.kind,.string r.text,.int .i64 r.n,.slice A r.list.length c] 27) 27 [.int .i64 r.kind,.string r.text,.int .i64 r.n,.slice A' r.list.length c'])
 have HV:=hid h
 have KV:=hid k
 have H0:=hid h0
 clear h k h0
 go_enter Tryz.func15,Tryz.ntmps15
 go_wp2
 go_loopg [5] r.list.length (fun x i wr=>∃(k:Nat),x=r.list.length - k∧k≤r.list.length∧i=.int .i64 k∧Fr [] ((w.alloc (.cells #[.int .i64 r.kind,.string r.text,.int .i64 r.n,.slice A r.list.length c] 27)).alloc (.cells #[.int .i64 r.kind,.string r.text,.int .i64 r.n,.slice A' r.list.length c'] 27)) wr)
 case atStart=>exact⟨0,rfl,Nat.zero_le _,rfl,Fr.refl _ _⟩
 case round=>
  obtain⟨k,rfl,hk,rfl,hf⟩:=hrel
  have HF:=hid hf
  have V3:=hid (V1.out.fr hf (by simp))
  have V4:=hid (V2.out.fr hf (by simp))
  clear hf
  obtain⟨c0,c1,c2,c3⟩:=four V3.out
  obtain⟨d0,d1,d2,d3⟩:=four V4.out
  by_cases hlt:k < r.list.length
  ·obtain⟨b,off,rfl,hb,hc,hmx,hat⟩:=HV.out.at_ (by omega)
   obtain⟨b2,off2,rfl,hb2,hc2,hmx2,hat2⟩:=KV.out.at_ (by omega)
   obtain⟨e,he⟩:∃e,r.list[k]? = some e:=⟨_,List.getElem?_eq_getElem hlt⟩
   obtain⟨A1,c1',h4⟩:=hat k e he
   obtain⟨A2,c2',k4⟩:=hat2 k e he
   have P4:=hid (h4.fr (F1.out.trans HF.out) (by simp))
   have Q4:=hid (k4.fr (F1.out.trans HF.out) (by simp))
   have hes:e.sub=0:=H0.out e (List.mem_of_getElem? he)
   clear hat hat2 h4 k4 he
   obtain⟨ek,et,en,es⟩:=e
   have hes:es=0:=hes
   subst hes
   have SI:=hid (zqi ek en et A1 A2 c1' c2' wr.drew)
   obtain⟨x0,x1,x2,x3⟩:=P4.out
   obtain⟨y0,y1,y2,y3⟩:=Q4.out
   go_wp2
   go_region_held3 (fun wx=>wx.cell? ⟨b,off+k * 4,none⟩=some (.int .i64 ek)∧wx.cell? ⟨b,off+k * 4+1,none⟩=some (.string et)∧wx.cell? ⟨b,off+k * 4+2,none⟩=some (.int .i64 en)∧wx.cell? ⟨b,off+k * 4+3,none⟩=some (.slice A1 0 c1')∧wx.cell? ⟨b2,off2+k * 4,none⟩=some (.int .i64 ek)∧wx.cell? ⟨b2,off2+k * 4+1,none⟩=some (.string et)∧wx.cell? ⟨b2,off2+k * 4+2,none⟩=some (.int .i64 en)∧wx.cell? ⟨b2,off2+k * 4+3,none⟩=some (.slice A2 0 c2')∧wx.cell? ⟨w.heap.size,3,none⟩=some (.slice (some ⟨b,off,none⟩) r.list.length c)∧wx.cell? ⟨w.heap.size+1,3,none⟩=some (.slice (some ⟨b2,off2,none⟩) r.list.length c')) (go_keep) ((go_at_call 15;refine SI.out.mono ?_;rintro e9 w2 ⟨rfl,f2⟩;have G2:=hid (z01 f2);have P42:=hid (P4.out.fr G2.out (by simp));have Q42:=hid (Q4.out.fr G2.out (by simp));have V32:=hid (V3.out.fr G2.out (by simp));have V42:=hid (V4.out.fr G2.out (by simp));clear f2 x0 x1 x2 x3 y0 y1 y2 y3 c0 c1 c2 c3 d0 d1 d2 d3;obtain⟨x0,x1,x2,x3⟩:=P42.out;obtain⟨y0,y1,y2,y3⟩:=Q42.out;obtain⟨c0,c1,c2,c3⟩:=four V32.out;obtain⟨d0,d1,d2,d3⟩:=four V42.out))
   go_wp2
   go_roundg (r.list.length - (k+1))
   case measure=>omega
   case rel=>exact⟨k+1,rfl,by omega,by go_num,HF.out.trans G2.out⟩
  ·obtain rfl:k=r.list.length:=by omega
   go_wp2
   go_ret
   exact⟨rfl,F1.out.trans HF.out⟩
def zh6(k:Int)(t:ByteArray)(n:Int)(w:World)(e:Ending)(w':World):Prop:=e=.returned (.agg #[.int .i64 k,.string t,.int .i64 n,.slice none 0 0])∧Fr [] w w'
theorem z2g{a b:World}{o:Obj}(h:Fr [] (a.alloc o) b):Fr [] a b:=((Fr.refl [] a).alloc o).trans h
def orR(r:Rep)(c:Int)(b:Bool):Rep:=if c=0 then r else if c=5∧b=true then zbq else z78 c
def orV(v:Value)(c:Int)(b:Bool):Value:=if c=0 then v else if c=5∧b=true then .agg #[.int .i64 5,.string ⟨#[]⟩,.int .i64 0,.slice none 0 0] else .agg #[.int .i64 2,.string ⟨#[]⟩,.int .i64 c,.slice none 0 0]
theorem z8n{w:World}{base:Nat}{v:Value}{r:Rep}(h:z1f w base v r)(c:Int)(b:Bool):z1f w base (orV v c b) (orR r c b):=by
 unfold orV orR
 split
 ·exact h
 ·split
  ·exact z1f.bare _ _ _ _ _
  ·exact z1f.bare _ _ _ _ _
theorem zxx{w:World}{g t:Nat}{a b c d:Value}(h:Whole w g t [a,b,c,d])(x y z u:Value):Whole (set4 w g x y z u) g t [x,y,z,u]:=Whole.set_ (Whole.set_ (Whole.set_ (Whole.set_ h 0 _) 1 _) 2 _) 3 _
theorem z0j(n:Int)(w:World):Calls prog 171 #[.int .i64 n] w (zh6 3 ⟨#[]⟩ n w):=by
 have W0:=hid (Whole.new w 27 [.int .i64 0,.string ⟨#[]⟩,.int .i64 0,.slice none 0 0])
 have F0:=hid ((Fr.refl [] w).alloc (.cells #[.int .i64 0,.string ⟨#[]⟩,.int .i64 0,.slice none 0 0] 27))
 obtain⟨y0,y1,y2,y3⟩:=four (show Whole (w.alloc (.cells #[.int .i64 3,.string ⟨#[]⟩,.int .i64 n,.slice none 0 0] 27)) w.heap.size 27 [.int .i64 3,.string ⟨#[]⟩,.int .i64 n,.slice none 0 0] from Whole.new w _ _)
 go_enter Tryz.func171,Tryz.ntmps171
 go_wp2
 refine bodyPost_ret (v:=.agg #[.int .i64 3,.string ⟨#[]⟩,.int .i64 n,.slice none 0 0]) (by simp[results,Tryz.results171,go_sem,y0,y1,y2,y3]) rfl ⟨rfl,(Fr.refl [] w).alloc _⟩
theorem zbv(t:ByteArray)(w:World):Calls prog 127 #[.string t] w (zh6 1 t 0 w):=by
 have W0:=hid (Whole.new w 27 [.int .i64 0,.string ⟨#[]⟩,.int .i64 0,.slice none 0 0])
 have F0:=hid ((Fr.refl [] w).alloc (.cells #[.int .i64 0,.string ⟨#[]⟩,.int .i64 0,.slice none 0 0] 27))
 obtain⟨y0,y1,y2,y3⟩:=four (show Whole (w.alloc (.cells #[.int .i64 1,.string t,.int .i64 0,.slice none 0 0] 27)) w.heap.size 27 [.int .i64 1,.string t,.int .i64 0,.slice none 0 0] from Whole.new w _ _)
 go_enter Tryz.func127,Tryz.ntmps127
 go_wp2
 refine bodyPost_ret (v:=.agg #[.int .i64 1,.string t,.int .i64 0,.slice none 0 0]) (by simp[results,Tryz.results127,go_sem,y0,y1,y2,y3]) rfl ⟨rfl,(Fr.refl [] w).alloc _⟩
theorem z7t(t:ByteArray)(w:World):Calls prog 166 #[.string t] w (zh6 4 t 0 w):=by
 have W0:=hid (Whole.new w 27 [.int .i64 0,.string ⟨#[]⟩,.int .i64 0,.slice none 0 0])
 have F0:=hid ((Fr.refl [] w).alloc (.cells #[.int .i64 0,.string ⟨#[]⟩,.int .i64 0,.slice none 0 0] 27))
 obtain⟨y0,y1,y2,y3⟩:=four (show Whole (w.alloc (.cells #[.int .i64 4,.string t,.int .i64 0,.slice none 0 0] 27)) w.heap.size 27 [.int .i64 4,.string t,.int .i64 0,.slice none 0 0] from Whole.new w _ _)
 go_enter Tryz.func166,Tryz.ntmps166
 go_wp2
 refine bodyPost_ret (v:=.agg #[.int .i64 4,.string t,.int .i64 0,.slice none 0 0]) (by simp[results,Tryz.results166,go_sem,y0,y1,y2,y3]) rfl ⟨rfl,(Fr.refl [] w).alloc _⟩
theorem zag(n:Int)(w:World):Calls prog 85 #[.int .i64 n] w (zh6 2 ⟨#[]⟩ n w):=by
 have W0:=hid (Whole.new w 27 [.int .i64 0,.string ⟨#[]⟩,.int .i64 0,.slice none 0 0])
 have F0:=hid ((Fr.refl [] w).alloc (.cells #[.int .i64 0,.string ⟨#[]⟩,.int .i64 0,.slice none 0 0] 27))
 obtain⟨y0,y1,y2,y3⟩:=four (show Whole (w.alloc (.cells #[.int .i64 2,.string ⟨#[]⟩,.int .i64 n,.slice none 0 0] 27)) w.heap.size 27 [.int .i64 2,.string ⟨#[]⟩,.int .i64 n,.slice none 0 0] from Whole.new w _ _)
 go_enter Tryz.func85,Tryz.ntmps85
 go_wp2
 refine bodyPost_ret (v:=.agg #[.int .i64 2,.string ⟨#[]⟩,.int .i64 n,.slice none 0 0]) (by simp[results,Tryz.results85,go_sem,y0,y1,y2,y3]) rfl ⟨rfl,(Fr.refl [] w).alloc _⟩
theorem z4r(r:Rep)(v:Value)(c:Int)(b:Bool)(base:Nat)(w:World)(h:z1f w base v r):Calls prog 165 #[v,.int .i64 c,.bool b] w fun e w'=>e=.returned (orV v c b)∧Fr [] w w':=by
 obtain⟨A,k,rfl⟩:=h.form
 have E:=hid (show orV (.agg #[.int .i64 r.kind,.string r.text,.int .i64 r.n,.slice A r.list.length k]) c b=if c=0 then (.agg #[.int .i64 r.kind,.string r.text,.int .i64 r.n,.slice A r.list.length k]) else if c=5∧b=true then .agg #[.int .i64 5,.string ⟨#[]⟩,.int .i64 0,.slice none 0 0] else .agg #[.int .i64 2,.string ⟨#[]⟩,.int .i64 c,.slice none 0 0] from rfl)
 have FA:=hid (fun o=>(((Fr.refl [] w).alloc (.cells #[.int .i64 r.kind,.string r.text,.int .i64 r.n,.slice A r.list.length k] 27)).alloc o))
 clear h
 by_cases h0:c=0
 ·subst h0
  rw[E.out,if_pos rfl]
  obtain⟨y0,y1,y2,y3⟩:=four (z3s w (.cells #[.int .i64 r.kind,.string r.text,.int .i64 r.n,.slice A r.list.length k] 27) 27 [.int .i64 r.kind,.string r.text,.int .i64 r.n,.slice A r.list.length k])
  go_enter Tryz.func165,Tryz.ntmps165
  go_wp2
  refine bodyPost_ret (v:=.agg #[.int .i64 r.kind,.string r.text,.int .i64 r.n,.slice A r.list.length k]) (by simp[results,Tryz.results165,go_sem,y0,y1,y2,y3]) rfl ?_
  exact⟨rfl,FA.out _⟩
 ·have q0:(c==0)=false:=by simpa using h0
  by_cases h5:c=5∧b=true
  ·obtain⟨rfl,rfl⟩:=h5
   rw[E.out,if_neg (by decide),if_pos ⟨rfl,rfl⟩]
   clear h0 q0
   obtain⟨y0,y1,y2,y3⟩:=four (z3s w (.cells #[.int .i64 r.kind,.string r.text,.int .i64 r.n,.slice A r.list.length k] 27) 27 [.int .i64 5,.string ⟨#[]⟩,.int .i64 0,.slice none 0 0])
   go_enter Tryz.func165,Tryz.ntmps165
   go_wp2
   refine bodyPost_ret (v:=.agg #[.int .i64 5,.string ⟨#[]⟩,.int .i64 0,.slice none 0 0]) (by simp[results,Tryz.results165,go_sem,y0,y1,y2,y3]) rfl ?_
   exact⟨rfl,FA.out _⟩
  ·rw[E.out,if_neg h0,if_neg h5]
   have V0:=hid (z3s w (.cells #[.int .i64 r.kind,.string r.text,.int .i64 r.n,.slice A r.list.length k] 27) 27 [.int .i64 0,.string ⟨#[]⟩,.int .i64 0,.slice none 0 0])
   have F0:=hid (FA.out (.cells #[.int .i64 0,.string ⟨#[]⟩,.int .i64 0,.slice none 0 0] 27))
   have FL:=hid (fun W=>zag c W)
   have q5:((c==5)&&b)=false:=by
    rcases b with _|_
    ·simp
    ·simp only[Bool.and_true]
     have:¬c=5:=fun h=>h5 ⟨h,rfl⟩
     simpa using this
   clear h5 h0 E
   have HQ:=hid q5
   clear q5
   rcases hb:(c==5) with _|_
   ·skip
    go_enter Tryz.func165,Tryz.ntmps165
    go_wp2_with fail
    refine(FL.out _).mono ?_
    rintro e1 w1 ⟨rfl,f1⟩
    have F1:=hid (F0.out.trans f1)
    have V1:=hid (V0.out.fr f1 (by simp))
    clear f1
    obtain⟨a0,a1,a2,a3⟩:=four V1.out
    obtain⟨b0,b1,b2,b3⟩:=z0w V1.out
    go_wp2
    refine bodyPost_ret (v:=.agg #[.int .i64 2,.string ⟨#[]⟩,.int .i64 c,.slice none 0 0]) (by simp[results,Tryz.results165,go_sem,a0,a1,a2,a3]) rfl ?_
    exact⟨rfl,z1o F1.out (by simp) _ _ _ _⟩
   ·obtain rfl:b=false:=by
     have:=HQ.out
     rw[hb] at this
     simpa using this
    go_enter Tryz.func165,Tryz.ntmps165
    go_wp2_with fail
    refine(FL.out _).mono ?_
    rintro e1 w1 ⟨rfl,f1⟩
    have F1:=hid (F0.out.trans f1)
    have V1:=hid (V0.out.fr f1 (by simp))
    clear f1
    obtain⟨a0,a1,a2,a3⟩:=four V1.out
    obtain⟨b0,b1,b2,b3⟩:=z0w V1.out
    go_wp2
    refine bodyPost_ret (v:=.agg #[.int .i64 2,.string ⟨#[]⟩,.int .i64 c,.slice none 0 0]) (by simp[results,Tryz.results165,go_sem,a0,a1,a2,a3]) rfl ?_
    exact⟨rfl,z1o F1.out (by simp) _ _ _ _⟩
theorem z1w.atO{w:World}{base:Nat}{A:Option Addr}{c:Nat}{l:List Ent}(h:z1w w base (.slice A l.length c) l)(hn:0 < l.length) :
  ∃b off,A=some ⟨b,off,none⟩∧b < w.heap.size∧l.length≤c∧c≤maxLen∧∀(i:Nat) (e:Ent),l[i]? = some e→∃A1 A2 A3 c1 c2 c3,At7 w w.heap.size b (off+i * 7) e A1 A2 A3 c1 c2 c3∧z2v w base (z7d e A1 c1 A2 c2 A3 c3) e:=by
 obtain⟨rs,hl,hi,hs⟩:=h
 obtain⟨b,off,rfl,hb,hc,hm,hcell⟩:=(z0t hs).at_ hn
 refine⟨b,off,rfl,hb,hc,hm,fun i e he=>?_⟩
 obtain⟨cs,hcs,hE⟩:=hi i e he
 have all7:=zg5 hl (fun cs e h=>z2v.len h) hi
 have hC:=hE.c
 obtain⟨A1,c1,A2,c2,A3,c3,rfl,s1,s2,s3⟩:=hE
 have g:∀j u,j < 7→(z7d e A1 c1 A2 c2 A3 c3)[j]? = some u→w.cell? ⟨b,off+(i * 7+j),none⟩=some u:=fun j u hj hu=>
  hcell _ _ (by rw[z4q 7 rs i j _ all7 hcs hj];exact hu)
 exact⟨A1,A2,A3,c1,c2,c3,⟨g 0 _ (by decide) rfl,by rw[Nat.add_assoc];exact g 1 _ (by decide) rfl,by rw[Nat.add_assoc];exact g 2 _ (by decide) rfl,by rw[Nat.add_assoc];exact g 3 _ (by decide) rfl,by rw[Nat.add_assoc];exact g 4 _ (by decide) rfl,by rw[Nat.add_assoc];exact g 5 _ (by decide) rfl,by rw[Nat.add_assoc];exact g 6 _ (by decide) rfl,hC⟩,⟨A1,c1,A2,c2,A3,c3,rfl,s1,s2,s3⟩⟩
def zez(e:Ent)(b:Bool)(base:Nat)(w:World)(r:Ending)(w':World):Prop:=
 ∃A1 c1 A2 c2 A3 c3,r=.returned (.tuple #[.agg #[.string e.key,.int .i64 e.item.kind,.string e.item.text,.slice A1 e.item.list.length c1,.slice A2 e.item.pairs.length c2,.slice A3 e.item.scores.length c3,.int .i64 e.til],.bool b])∧z2v w' base (z7d e A1 c1 A2 c2 A3 c3) e∧Fr [] w w'
theorem zu2(w:World)(base:Nat):z2v w base (z7d zwk none 0 none 0 none 0) zwk:=⟨none,0,none,0,none,0,rfl,World.ownsRow_nil _ _ _ _,World.ownsRow_nil _ _ _ _,World.ownsRow_nil _ _ _ _⟩
theorem z1g(l:List Ent)(v:Value)(now:Int)(s:ByteArray)(w:World)(B0:Nat)(hr:rises (ltK Ent.key) l=true)(hl:l.length≤281474976710656)(ho:z1w w B0 v l) :
  Calls prog 105 #[v,.int .i64 now,.string s] w (zez (z00 l now s) (z1a l now s) B0 w):=by
 obtain⟨B,hB,h⟩:∃B,B≤w.heap.size∧z0v w B v l:=⟨_,Nat.le_refl _,ho.v⟩
 obtain⟨A,c,rfl⟩:=h.form
 have F0:=hid ((Fr.refl [] w).alloc (.cells #[.string ⟨#[]⟩,.int .i64 0,.string ⟨#[]⟩,.slice none 0 0,.slice none 0 0,.slice none 0 0,.int .i64 0] 45))
 have W0:=hid (Whole.new w 45 [.string ⟨#[]⟩,.int .i64 0,.string ⟨#[]⟩,.slice none 0 0,.slice none 0 0,.slice none 0 0,.int .i64 0])
 have FD:=hid (fun W (hW:Fr [] w W)=>z9w l s A c B W hr hl (Nat.le_trans hB hW.size) (h.fr hW hB (by simp)))
 have HV:=hid ho
 have HR:=hid hr
 unfold z4g at FD
 clear h hr ho
 by_cases hh:z5r Ent.key l s=true
 ·obtain⟨e,he,hk⟩:=(z36 Ent.key).1 hh
  subst hk
  have hlt:=(List.getElem?_eq_some_iff.1 he).1
  obtain⟨b,off,rfl,hb,hc,hmx,hat⟩:=HV.out.atO (by omega)
  obtain⟨A1,A2,A3,c1,c2,c3,h7,o7⟩:=hat _ e he
  have H7:=hid h7
  have O7:=hid o7
  have EL:=hid (zf2 HR.out he now)
  have GO:=hid (fun W=>zbr e.til now W)
  rw[hh] at FD
  clear hat h7 o7 he hh
  generalize z1z Ent.key l e.key=k at *
  have ix0:(0:Int)≤(k:Int):=by omega
  have ix1:(k:Int) < (l.length:Int):=by omega
  unfold maxLen at hmx
  by_cases hg:z1r e.til now=true
  ·have E1:=hid (show z2c l now e.key=none from EL.out.trans (if_pos hg))
   rw[hg] at GO
   clear EL hg
   go_enter Tryz.func105,Tryz.ntmps105
   go_wp2_with fail
   refine(FD.out _ F0.out).mono ?_
   rintro e1 w1 ⟨rfl,f1⟩
   have F1:=hid (F0.out.trans f1)
   have W1:=hid (W0.out.fr f1 (by simp))
   have P7:=hid (H7.out.fr F1.out hb (Nat.le_refl _) (by simp))
   obtain⟨x0,x1,x2,x3,x4,x5,x6,-⟩:=P7.out
   clear f1
   go_wp2_with fail
   refine(GO.out _).mono ?_
   rintro e2 w2 ⟨rfl,rfl⟩
   obtain⟨a0,a1,a2,a3,a4,a5,a6⟩:=seven W1.out
   obtain⟨b0,b1,b2,b3,b4,b5,b6⟩:=z3p W1.out
   go_wp2
   refine bodyPost_ret (v:=.tuple #[.agg #[.string ⟨#[]⟩,.int .i64 0,.string ⟨#[]⟩,.slice none 0 0,.slice none 0 0,.slice none 0 0,.int .i64 0],.bool false]) (by simp[results,Tryz.results105,go_sem,a0,a1,a2,a3,a4,a5,a6]) rfl ?_
   unfold z00 z1a zez
   rw[E1.out]
   exact⟨none,0,none,0,none,0,rfl,zu2 _ _,z43 F1.out (Nat.le_refl _) _ _ _ _ _ _ _⟩
  ·have hg':z1r e.til now=false:=by simpa using hg
   have E1:=hid (show z2c l now e.key=some e from EL.out.trans (if_neg hg))
   rw[hg'] at GO
   clear EL hg hg'
   go_enter Tryz.func105,Tryz.ntmps105
   go_wp2_with fail
   refine(FD.out _ F0.out).mono ?_
   rintro e1 w1 ⟨rfl,f1⟩
   have F1:=hid (F0.out.trans f1)
   have W1:=hid (W0.out.fr f1 (by simp))
   have P7:=hid (H7.out.fr F1.out hb (Nat.le_refl _) (by simp))
   obtain⟨x0,x1,x2,x3,x4,x5,x6,-⟩:=P7.out
   clear f1
   go_wp2_with fail
   refine(GO.out _).mono ?_
   rintro e2 w2 ⟨rfl,rfl⟩
   obtain⟨a0,a1,a2,a3,a4,a5,a6⟩:=seven W1.out
   obtain⟨b0,b1,b2,b3,b4,b5,b6⟩:=z3p W1.out
   go_wp2
   refine bodyPost_ret (v:=.tuple #[.agg (z7d e A1 c1 A2 c2 A3 c3).toArray,.bool true]) (by simp[results,Tryz.results105,go_sem,z7d,a0,a1,a2,a3,a4,a5,a6]) rfl ?_
   unfold z00 z1a zez
   rw[E1.out]
   exact⟨A1,c1,A2,c2,A3,c3,rfl,O7.out.fr (z43 F1.out (Nat.le_refl _) _ _ _ _ _ _ _),z43 F1.out (Nat.le_refl _) _ _ _ _ _ _ _⟩
 ·have hh':z5r Ent.key l s=false:=by simpa using hh
  have E1:=hid (zoz HR.out hh' now)
  rw[hh'] at FD
  clear hh hh'
  generalize z1z Ent.key l s=k at *
  go_enter Tryz.func105,Tryz.ntmps105
  go_wp2_with fail
  refine(FD.out _ F0.out).mono ?_
  rintro e1 w1 ⟨rfl,f1⟩
  have F1:=hid (F0.out.trans f1)
  have W1:=hid (W0.out.fr f1 (by simp))
  clear f1
  obtain⟨a0,a1,a2,a3,a4,a5,a6⟩:=seven W1.out
  obtain⟨b0,b1,b2,b3,b4,b5,b6⟩:=z3p W1.out
  go_wp2
  refine bodyPost_ret (v:=.tuple #[.agg #[.string ⟨#[]⟩,.int .i64 0,.string ⟨#[]⟩,.slice none 0 0,.slice none 0 0,.slice none 0 0,.int .i64 0],.bool false]) (by simp[results,Tryz.results105,go_sem,a0,a1,a2,a3,a4,a5,a6]) rfl ?_
  unfold z00 z1a zez
  rw[E1.out]
  exact⟨none,0,none,0,none,0,rfl,zu2 _ _,z43 F1.out (Nat.le_refl _) _ _ _ _ _ _ _⟩
def zxi(l:List Ent)(now:Int)(s:ByteArray)(x:Itm):Bool:=if z0p l now s=0 then !z0o x else false
def zlu(l:List Ent)(now:Int)(s:ByteArray)(x:Itm):Int:=if zxi l now s x=true then z0d x else z0p l now s
def tst2(e now u:Int):Bool:=if e=0 then (if u=0 then false else if u≤now then true else decide (1000000 < u)) else false
def zrr(e now u:Int):Int:=if tst2 e now u=true then 3 else e
def z7m(l:List Ent)(now:Int)(s:ByteArray)(x:Itm)(u:Int):Int:=zrr (zlu l now s x) now u
def zsr(l:List Ent)(now:Int)(s:ByteArray)(x:Itm)(u:Int):List Ent:=if z7m l now s x u=0 then z5l l now s x u else []
def zsa(l:List Ent)(now:Int)(s:ByteArray)(x:Itm)(u:Int):Int:=if z7m l now s x u=0 then z1e l now s x u else z7m l now s x u
def SCP(l:List Ent)(c:Int)(w:World)(r:Ending)(w':World):Prop:=∃u,r=.returned (.tuple #[u,.int .i64 c])∧z1w w' w.heap.size u l∧Fr [] w w'
theorem zi8{l:List Ent}{now:Int}{s:ByteArray}{x:Itm}{u:Int}(h:z7m l now s x u=0):z0p l now s=0∧(z0o x=true∨z0d x=0):=by
 unfold z7m zrr at h
 have h1:zlu l now s x=0:=by
  split at h
  ·omega
  ·exact h
 unfold zlu zxi at h1
 by_cases h2:z0p l now s=0
 ·rw[if_pos h2] at h1
  refine⟨h2,?_⟩
  rcases h3:z0o x with _|_
  ·rw[h3] at h1;exact .inr h1
  ·exact .inl rfl
 ·rw[if_neg h2] at h1;exact absurd h1 h2
def ztz(b:Bool)(cs:List Value)(w:World)(sv:Value)(wx:World):Prop:=sv=.bool b∧BX w cs wx
def zub(e:Int)(cs:List Value)(w:World)(sv:Value)(wx:World):Prop:=sv=.int .i64 e∧BX w cs wx
theorem zg3(l:List Ent)(v:Value)(now:Int)(s:ByteArray)(x:Itm)(xv:Value)(u:Int)(w:World)(B:Nat)(hs:∀e∈l,e.Small)(hl:l.length≤281474976710656)(hz:s.size≤281474976710656)(hsx:x.Small)(hB:B≤w.heap.size)(h:z0v w B v l)(hx:z0q w B xv x) :
  Calls prog 71 #[v,.int .i64 now,.string s,xv,.int .i64 u] w (SCP (zsr l now s x u) (zsa l now s x u) w):=by
 obtain⟨A,c,rfl⟩:=h.form
 have HXV:=hid hx
 obtain⟨X1,x1,X2,x2,X3,x3,rfl⟩:=hx.form
 have D0:=hid (BX.new w (.int .i64 x.kind) (.string x.text) (.slice X1 x.list.length x1) (.slice X2 x.pairs.length x2) (.slice X3 x.scores.length x3))
 have RD:=hid (fun W (hW:Fr [] w W)=>z3d l _ now s W B hs hl hz (Nat.le_trans hB hW.size) (h.fr hW hB (by simp)))
 have NO:=hid (fun W (hW:Fr [] w W)=>z6i x _ W B hsx (Nat.le_trans hB hW.size) (HXV.out.fr hW hB (by simp)))
 have CK:=hid (fun W (hW:Fr [] w W)=>z6r x _ W B hsx (Nat.le_trans hB hW.size) (HXV.out.fr hW hB (by simp)))
 have HV:=hid h
 have HS:=hid hs
 have HSX:=hid hsx
 have PZ:=hid (fun(hq:z7m l now s x u=0)=>zi8 hq)
 have EL:=hid (show zsr l now s x u=if z7m l now s x u=0 then z5l l now s x u else [] from rfl)
 have EC:=hid (show zsa l now s x u=if z7m l now s x u=0 then z1e l now s x u else z7m l now s x u from rfl)
 have EE:=hid (show z7m l now s x u=zrr (zlu l now s x) now u from rfl)
 have E1:=hid (show zlu l now s x=if zxi l now s x=true then z0d x else z0p l now s from rfl)
 have T1:=hid (show zxi l now s x=if z0p l now s=0 then !z0o x else false from rfl)
 clear h hs hx hsx
 generalize zsr l now s x u=LL at *
 generalize zsa l now s x u=CC at *
 generalize z7m l now s x u=er at *
 generalize zlu l now s x=e1 at *
 generalize zxi l now s x=t1 at *
 obtain⟨d0,d1,d2,d3,d4⟩:=five D0.out.b
 go_enter Tryz.func71,Tryz.ntmps71
 go_wp2_with fail
 refine(RD.out _ D0.out.f).mono ?_
 rintro e w1 ⟨rfl,f1⟩
 have D1:=hid (D0.out.go f1)
 clear f1 d0 d1 d2 d3 d4
 obtain⟨d0,d1,d2,d3,d4⟩:=five D1.out.b
 go_upto_region 2 with fail
 go_cut [23] (fun sv wx=>ztz t1 [.int .i64 x.kind,.string x.text,.slice X1 x.list.length x1,.slice X2 x.pairs.length x2,.slice X3 x.scores.length x3] w sv wx)
 case first=>
  by_cases ha:z0p l now s=0
  ·rw[if_pos ha] at T1
   have q1:(z0p l now s==0)=true:=by simpa using ha
   clear ha
   generalize z0p l now s=r at *
   rcases hn:z0o x with _|_
   all_goals
    rw[hn] at NO T1
    go_wp2_with fail
    refine(NO.out _ D1.out.f).mono ?_
    rintro e2 w2 ⟨rfl,f2⟩
    have D2:=hid (D1.out.go f2)
    clear f2
    go_wp2
    go_meet
    case rel=>exact⟨by rw[T1.out];rfl,D2.out⟩
  ·rw[if_neg ha] at T1
   have q1:(z0p l now s==0)=false:=by simpa using ha
   generalize z0p l now s=r at *
   go_wp2
   go_meet
   case rel=>exact⟨by rw[T1.out],D1.out⟩
 case rest=>
  obtain⟨rfl,hD⟩:=hcut
  have D2:=hid hD
  clear hD d0 d1 d2 d3 d4 D1 T1
  obtain⟨d0,d1,d2,d3,d4⟩:=five D2.out.b
  go_upto_if 23 with fail
  go_cut [12,24,25] (fun sv _ _ wx=>zub e1 [.int .i64 x.kind,.string x.text,.slice X1 x.list.length x1,.slice X2 x.pairs.length x2,.slice X3 x.scores.length x3] w sv wx)
  case first=>
   rcases t1 with _|_
   ·go_wp2
    go_meet
    case rel=>exact⟨by rw[E1.out];rfl,D2.out⟩
   ·go_wp2_with fail
    refine(CK.out _ D2.out.f).mono ?_
    rintro e3 w3 ⟨rfl,f3⟩
    have D3:=hid (D2.out.go f3)
    clear f3
    go_wp2
    go_meet
    case rel=>exact⟨by rw[E1.out];rfl,D3.out⟩
  case rest=>
  obtain⟨rfl,hD⟩:=hcut
  have D2:=hid hD
  clear hD d0 d1 d2 d3 d4 E1
  obtain⟨d0,d1,d2,d3,d4⟩:=five D2.out.b
  have T2:=hid (show tst2 e1 now u=if e1=0 then (if u=0 then false else if u≤now then true else decide (1000000 < u)) else false from rfl)
  have E2:=hid (show zrr e1 now u=if tst2 e1 now u=true then 3 else e1 from rfl)
  rw[E2.out] at EE
  clear E2
  generalize tst2 e1 now u=t2 at *
  go_upto_region 4 with fail
  go_cut [40] (fun sv wx=>ztz t2 [.int .i64 x.kind,.string x.text,.slice X1 x.list.length x1,.slice X2 x.pairs.length x2,.slice X3 x.scores.length x3] w sv wx)
  case first=>
   by_cases h1:e1=0
   ·rw[if_pos h1] at T2
    have q1:(e1==0)=true:=by simpa using h1
    clear h1
    by_cases h2:u=0
    ·rw[if_pos h2] at T2
     have q2:(u != 0)=false:=by simpa using h2
     clear h2
     go_wp2
     go_meet
     case rel=>exact⟨by rw[T2.out],D2.out⟩
    ·rw[if_neg h2] at T2
     have q2:(u != 0)=true:=by simpa using h2
     by_cases h3:u≤now
     ·rw[if_pos h3] at T2
      go_wp2
      go_meet
      case rel=>exact⟨by rw[T2.out],D2.out⟩
     ·rw[if_neg h3] at T2
      go_wp2
      go_meet
      case rel=>exact⟨by rw[T2.out],D2.out⟩
   ·rw[if_neg h1] at T2
    have q1:(e1==0)=false:=by simpa using h1
    go_wp2
    go_meet
    case rel=>exact⟨by rw[T2.out],D2.out⟩
  case rest=>
   obtain⟨rfl,hD⟩:=hcut
   have D3:=hid hD
   clear hD d0 d1 d2 d3 d4 D2 T2
   obtain⟨d0,d1,d2,d3,d4⟩:=five D3.out.b
   go_upto_if 40 with fail
   go_cut [12] (fun sv wx=>zub er [.int .i64 x.kind,.string x.text,.slice X1 x.list.length x1,.slice X2 x.pairs.length x2,.slice X3 x.scores.length x3] w sv wx)
   case first=>
    rcases t2 with _|_
    all_goals
     go_wp2
     go_meet
     case rel=>exact⟨by rw[EE.out];rfl,D3.out⟩
   case rest=>
   obtain⟨rfl,hD⟩:=hcut
   have D3:=hid hD
   clear hD d0 d1 d2 d3 d4 EE
   obtain⟨d0,d1,d2,d3,d4⟩:=five D3.out.b
   by_cases h1:er=0
   ·subst h1
    rw[if_pos rfl] at EL EC
    have ok:=zta (zwj (PZ.out rfl).1).1
    have hl16:=ok.le
    have HR:=hid ok.rise
    have OW:=hid (fun W (hW:Fr [] w W)=>z2z l _ W B HS.out (zhk ok) (by omega) (Nat.le_trans hB hW.size) (HV.out.fr hW hB (by simp)))
    have LN:x.list.length≤1000000∧x.pairs.length≤1000000∧x.scores.length≤1000000:=(PZ.out rfl).2.elim zwu zur
    have OI:=hid (fun W (hW:Fr [] w W)=>z8j x _ W B HSX.out LN.1 LN.2.1 LN.2.2 (Nat.le_trans hB hW.size) (HXV.out.fr hW hB (by simp)))
    have RW:=hid (fun W v xv base (h:z1w W base v l) (hx:z0l W base xv x) (hb:base≤W.heap.size)=>zaw l v now s x xv u base W HR.out (by omega) HSX.out h hx hb)
    clear ok PZ LN RD NO CK
    generalize z5l l now s x u=L2 at *
    generalize z1e l now s x u=c2 at *
    go_upto_region 8 with fail
    go_region_held3 (fun wx=>wx.cell? ⟨w.heap.size,0,none⟩=some (.int .i64 x.kind)∧wx.cell? ⟨w.heap.size,1,none⟩=some (.string x.text)∧wx.cell? ⟨w.heap.size,2,none⟩=some (.slice X1 x.list.length x1)∧wx.cell? ⟨w.heap.size,3,none⟩=some (.slice X2 x.pairs.length x2)∧wx.cell? ⟨w.heap.size,4,none⟩=some (.slice X3 x.scores.length x3)) (go_keep) (first
     | (go_at_call 78;(refine(OW.out _ D3.out.f.drew).mono ?_);rintro e w5 ⟨u5,rfl,ho,f5⟩;have D5:=hid (D3.out.go (z01 f5));clear d0 d1 d2 d3 d4 f5;obtain⟨d0,d1,d2,d3,d4⟩:=five D5.out.b;have HO5:=hid ho;obtain⟨A5,c5,rfl⟩:=ho.form;clear ho)
     | (go_at_call 106;(refine(OI.out _ D5.out.f).mono ?_);rintro e w6 ⟨u6,rfl,hi,f6⟩;have D6:=hid (D5.out.go f6);have HO6:=hid (HO5.out.fr f6);have HI6:=hid hi;clear d0 d1 d2 d3 d4;obtain⟨d0,d1,d2,d3,d4⟩:=five D6.out.b;obtain⟨P1,p1,P2,p2,P3,p3,rfl⟩:=hi.form;clear hi f6)
     | (go_at_call 108;(refine(RW.out _ _ _ w.heap.size (HO6.out.base D3.out.f.size) (HI6.out.less D5.out.f.size) D6.out.f.size).mono ?_);rintro e w7 ⟨u7,rfl,ho,f7⟩;have F7:=hid (D6.out.f.step f7 (fun q hq=>.inr (by
       obtain⟨rs,_,_,hr⟩:=HO6.out
       have:=z1j hr hq
       have hd:wc.drew.heap.size=wc.heap.size:=rfl
       have:=D3.out.f.size
       omega)));have HO7:=hid ho;obtain⟨A7,c7,rfl⟩:=ho.form;have D7:=hid (show Whole w7 w.heap.size _ _ from D6.out.b.fr f7 (by
       intro hq
       obtain⟨rs,_,_,hr⟩:=HO6.out
       have:=z1j hr hq
       have hd:wc.drew.heap.size=wc.heap.size:=rfl
       have:=D3.out.b.lt
       omega));clear d0 d1 d2 d3 d4;obtain⟨d0,d1,d2,d3,d4⟩:=five D7.out;clear ho f7))
    go_wp2
    go_ret2
    rw[EL.out,EC.out]
    exact⟨_,rfl,HO7.out,F7.out⟩
   ·rw[if_neg h1] at EL EC
    have q1:(er != 0)=true:=by simpa using h1
    clear PZ
    go_wp2
    go_ret2
    rw[EL.out,EC.out]
    exact⟨_,rfl,z1w.nil _ _,D3.out.f⟩
end Go.Proofs.YtamgdmiopinidaaGreatDoor
