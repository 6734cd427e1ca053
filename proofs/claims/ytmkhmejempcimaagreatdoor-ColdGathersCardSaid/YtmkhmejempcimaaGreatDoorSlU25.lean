/- Contracts; no condition but each theorem's own. -/
import Derived.Test.YtmkhmejempcimaaGreatDoorSlU23
import Derived.Test.YtmkhmejempcimaaGreatDoorSlU24
set_option linter.unusedVariables false
set_option linter.unusedSimpArgs false
set_option maxHeartbeats 8000000
set_option maxRecDepth 100000
namespace Go.Proofs.YtmkhmejempcimaaGreatDoor
open Lib (hid)
open Go.Proofs.Tryz (prog)
open Go.RowKit
theorem zev{s:Sto}{k:ByteArray}{e:Int}(h:z25 s k false=(none,e)):z38 s k=(noS,e):=by unfold z38;rw[h]
theorem z9q{s:Sto}{k:ByteArray}{p:Nat×Slt}{e:Int}(h:z25 s k false=(some p,e))(hr:zah s.segs=false):z38 s k=(noS,2):=by unfold z38;rw[h];simp only;rw[if_neg (by rw[hr];decide)]
theorem zcl{s:Sto}{k:ByteArray}{i:Nat}{x:Slt}{e:Int}(h:z25 s k false=(some (i,x),e))(hr:zah s.segs=true):z38 s k=(znz s i x,0):=by unfold z38;rw[h];simp only;rw[if_pos hr]
theorem z4n{w:World}{base e k g n c:Nat}{xs:List Value}(h:w.ownsRow base e k (.slice (some ⟨g,0,none⟩) n c) n xs):(∀j u,xs[j]? = some u→w.cell? ⟨g,j,none⟩=some u)∧(∀j,w.frozen? ⟨g,j,none⟩=false)∧base≤g∧n≤c∧c≤maxLen:=by
 obtain⟨cur,hw,h1,h2,h3,h4,h5,h6⟩:=z1i h;refine⟨fun j u hu=>?_,fun j=>hw.frozen j,h3,h4,h5⟩;rw[hw.cell];rw[←h2] at hu;rw[List.getElem?_take] at hu;split at hu
 ·exact hu
 ·cases hu
theorem zfo{v:Value}{k:Nat}(hk:v.ownBlock=some k):k∈z1o v:=by
 unfold Value.ownBlock at hk;unfold z1o;split at hk
 ·cases hk;simp
 ·cases hk
theorem z50{w:World}{base e k n:Nat}{v:Value}{xs:List Value}(h:w.ownsRow base e k v n xs)(hn:0 < n):∃g c,v=.slice (some ⟨g,0,none⟩) n c:=by
 obtain⟨A,c,rfl,hA,-,-⟩:=z02 h;rcases hA with rfl|⟨g,rfl⟩
 ·exfalso;rcases h.2 with⟨_,h0⟩|⟨g',cap',cur,h',_⟩
  ·omega
  ·cases h'
 ·exact⟨g,c,rfl⟩
theorem zjt(s:Sto)(base mid kb:Nat)(a b:Value)(key:ByteArray)(w:World)(ok:z2t s)(hsm:s.Small)(hb:base≤w.heap.size)(h:KpM w base mid kb a b s):
  Calls prog 24 #[.pointer (some ⟨kb,0,none⟩),.string key] w (KpP base kb (z38 s key).2 (z38 s key).1 w):=by
 have SL:=hid (zc8 s base mid kb a b key false w ok.rise (by have:=ok.le;omega) h);have RM:=hid (fun W (hW:Fr [] w W)=>zjw s base mid kb a b W ok.sle ok.rle (Nat.le_trans hb hW.size) (h.go hW));rcases hsl:z25 s key false with⟨_|⟨i,x⟩,e⟩
 ·rw[zev hsl];have he:=z4g hsl;have en:z94 s key false=0:=by unfold z94;rw[hsl]
  rw[hsl,en] at SL;have q:(e != 0)=true:=by simpa using he
  clear hsl RM en h;go_enter Tryz.func24,Tryz.ntmps24;go_wp2_with fail;refine SL.out.mono ?_;rintro e1 w1 ⟨rfl,f1⟩;go_wp2;go_ret;exact⟨rfl,f1.toB base,f1.size,fun h0=>absurd h0 he⟩
 obtain⟨hx,hxc,rfl,hxk,-,-⟩:=z4a hsl;have en:z94 s key false=i:=by unfold z94;rw[hsl]
 rw[hsl,en] at SL;cases hrm:zah s.segs with
 | false=>
  rw[z9q hsl hrm];rw[hrm] at RM;clear hsl en h hx;go_enter Tryz.func24,Tryz.ntmps24;go_wp2_with fail;refine SL.out.mono ?_;rintro e1 w1 ⟨rfl,f1⟩;go_wp2_with fail;refine(RM.out _ f1).mono ?_;rintro e2 w2 ⟨rfl,f2,hz2,-⟩;go_wp2;go_ret;exact⟨rfl,(f1.toB base).trans f2,Nat.le_trans f1.size hz2,fun h0=>absurd h0 (by decide)⟩
 | true=>
  rw[zcl hsl hrm];rw[hrm] at RM;obtain⟨hn0,hn8,hl4⟩:=zbg hrm ok.sle;have ET:znz s i x=⟨s.slots.set i (zeb x ((z1c s.segs).length - 1) (z45 (z1c s.segs))),z5w (z1c s.segs) ⟨(z0w x.item).toArray⟩⟩:=rfl;have hil:=(List.getElem?_eq_some_iff.1 hx).1;have hxm:=List.mem_of_getElem? hx;have RI:=hid (z2c ((ok.slot x hxm).hot hxc).1);have SM:=hid (hsm.slots x hxm).item;have hs16:=ok.le;obtain⟨l,hl⟩:=zi5 hn0;have el:=zeu hl;have HL:=hid hl;rw[el] at hl4 ET;have EA:z5w (z1c s.segs) ⟨(z0w x.item).toArray⟩=(z1c s.segs).set ((z1c s.segs).length - 1) (l++[⟨(z0w x.item).toArray⟩]):=by unfold z5w;rw[z1h hl]
  rw[EA] at ET;have HX:=hid hx;clear hsl en h hrm el EA ok hsm hl hxm;generalize z1c s.segs=ss at *;go_enter Tryz.func24,Tryz.ntmps24;go_wp2_with fail;refine SL.out.mono ?_;rintro e1 w1 ⟨rfl,f1⟩;go_wp2_with fail;refine(RM.out _ f1).mono ?_;rintro e2 w2 ⟨rfl,f2,hz2,hk⟩;obtain⟨md,a2,b2,K2⟩:=hk rfl;have F2:=hid ((f1.toB base).trans f2);have hz:=Nat.le_trans f1.size hz2;clear f1 f2 hk SL RM;obtain⟨sg,sc,rfl⟩:=z50 K2.sl.choose_spec.2 (show 0 < s.slots.length by omega);obtain⟨rs,hrs,hro⟩:=K2.sl;obtain⟨vs,hv1,hv2,hv3⟩:=K2.sg;obtain⟨rg,rc,rfl⟩:=z50 hv3 hn0;obtain⟨cs,hcs,hcI⟩:=hrs.at_ i x hx;obtain⟨⟨X1,x1,X2,x2,X3,x3,rfl,t1,t2,t3⟩,hcb⟩:=hcI;obtain⟨u,hu,hT⟩:=hv1.at_ _ l HL.out;obtain⟨LA,lc,rfl,-,-,-⟩:=z02 hT;have K:=hid K2;have HV1:=hid hv1;have HV2:=hid hv2;have HV3:=hid hv3;have HU:=hid hu;have HT:=hid hT;have HRO:=hid hro;obtain⟨g0,g1⟩:=two K2.k;obtain⟨pa,pf,pb,pc,pd⟩:=z4n hro;obtain⟨qa,qf,qb,qc,qd⟩:=z4n hv3;have a10:=z8u hrs;have cellx:∀j v,j < 10→(z1f x X1 x1 X2 x2 X3 x3)[j]? = some v→w2.cell? ⟨sg,i * 10+j,none⟩=some v:=fun j v hj hv=>pa _ v (by rw[z1w 10 rs i j _ a10 hcs hj];exact hv);have r0:=cellx 0 _ (by decide) rfl;have r1:=cellx 1 _ (by decide) rfl;have r2:=cellx 2 _ (by decide) rfl;have r3:=cellx 3 _ (by decide) rfl;have r4:=cellx 4 _ (by decide) rfl;have r5:=cellx 5 _ (by decide) rfl;have r6:=cellx 6 _ (by decide) rfl;have r7:=cellx 7 _ (by decide) rfl;have r8:=cellx 8 _ (by decide) rfl;have m1:=qa _ _ hu;obtain⟨i0,hi,hz0,hz1,hz2'⟩:=info_parts z2k;obtain⟨m,hm⟩:∃m,ss.length=m+1:=⟨ss.length - 1,by omega⟩;obtain⟨ll,hll⟩:∃ll,ll=l.length:=⟨_,rfl⟩;have hsub:ss.length - 1=m:=by omega
  have e1:w2.cell? ⟨kb,1,none⟩=some (.slice (some ⟨rg,0,none⟩) (m+1) rc):=by rw[←hm];exact g1
  have e2:w2.cell? ⟨rg,m,none⟩=some (.slice LA ll lc):=by rw[←hsub,hll];exact m1
  clear g1 m1;have HM:=hid hm;have HLL:=hid hll;have HSUB:=hid hsub;have hm8:m+1≤8:=by omega
  have hll4:ll < 4:=by omega
  have IB:=hid (fun W (hW:Fr [] w2 W)=>zgi x.item (.agg #[.int .i64 x.item.kind,.string x.item.text,.slice X1 x.item.list.length x1,.slice X2 x.item.pairs.length x2,.slice X3 x.item.scores.length x3]) W W.heap.size SM.out (Nat.le_refl _) RI.out (by
   have h1:=(z24.c ⟨X1,x1,X2,x2,X3,x3,rfl,t1,t2,t3⟩).item;exact(h1.fr hW (Nat.le_refl _) (by simp)).more hW.size))
  generalize (⟨(z0w x.item).toArray⟩:ByteArray)=bs at *;have hw1:IntKind.i64.wrap (((m+1:Nat):Int) - 1)=(m:Int):=by rw[IntKind.wrap_i64];omega
  have hw2:IntKind.i64.wrap ((m:Int)+1 - 1)=(m:Int):=by rw[IntKind.wrap_i64];omega
  have hw3:IntKind.i64.wrap (m:Int)=(m:Int):=by rw[IntKind.wrap_i64];omega
  have jx0:(0:Int)≤(m:Int):=by omega
  have jx1:(m:Int) < (m:Int)+1:=by omega
  have jx2:(0:Int)≤(i:Int):=by omega
  have jx3:(i:Int) < (s.slots.length:Int):=by omega
  have HPF:=hid pf;have HQF:=hid qf;have HCX:=hid cellx;have HRS:=hid hrs;have HCS:=hid hcs;have HT1:=hid t1;have HT2:=hid t2;have HT3:=hid t3;have HCB:=hid hcb;have ETT:=hid ET;unfold maxLen at pd qd;clear hx hu hT hv1 hv2 hv3 hrs hro hcs t1 t2 t3 hcb pa qa pf qf cellx a10 hm hsub hll hn0 hn8 hl4 ET K2;go_upto_region 8 with fail;refine z5j (n:=22) (fun wx=>wx.cell? ⟨kb,1,none⟩=some (.slice (some ⟨rg,0,none⟩) (m+1) rc)∧wx.cell? ⟨rg,m,none⟩=some (.slice LA ll lc)∧wx.cell? ⟨sg,i * 10+2,none⟩=some (.int .i64 x.item.kind)∧wx.cell? ⟨sg,i * 10+3,none⟩=some (.string x.item.text)∧wx.cell? ⟨sg,i * 10+4,none⟩=some (.slice X1 x.item.list.length x1)∧wx.cell? ⟨sg,i * 10+5,none⟩=some (.slice X2 x.item.pairs.length x2)∧wx.cell? ⟨sg,i * 10+6,none⟩=some (.slice X3 x.item.scores.length x3)) (by rfl) ?_;have hS:(fun wx=>wx.cell? ⟨kb,1,none⟩=some (.slice (some ⟨rg,0,none⟩) (m+1) rc)∧wx.cell? ⟨rg,m,none⟩=some (.slice LA ll lc)∧wx.cell? ⟨sg,i * 10+2,none⟩=some (.int .i64 x.item.kind)∧wx.cell? ⟨sg,i * 10+3,none⟩=some (.string x.item.text)∧wx.cell? ⟨sg,i * 10+4,none⟩=some (.slice X1 x.item.list.length x1)∧wx.cell? ⟨sg,i * 10+5,none⟩=some (.slice X2 x.item.pairs.length x2)∧wx.cell? ⟨sg,i * 10+6,none⟩=some (.slice X3 x.item.scores.length x3)) w2.drew:=⟨e1,e2,r2,r3,r4,r5,r6⟩;have HS0:=hid hS;refine z00 (i:=0) (v:=?v0) rfl (by kernel_rfl) (by kernel_rfl) (by kernel_rfl) (by kernel_rfl) (by decide) (fun _ _ _ h=>h) hS (Or.inl ⟨by rfl,?hy0⟩) ?rest0
  case hy0=>
   intro wS hSw;obtain⟨s0,s1,s2,s3,s4,s5,s6⟩:=hSw
   go_simp
   all_goals with_reducible rfl
  try simp only[Act.put,List.setIfInBounds_toArray,List.set_cons_zero,List.set_cons_succ]
  refine z00 (i:=1) (v:=?v1) rfl (by kernel_rfl) (by kernel_rfl) (by kernel_rfl) (by kernel_rfl) (by decide) (fun _ _ _ h=>h) hS (Or.inl ⟨by rfl,?hy1⟩) ?rest1
  case hy1=>
   intro wS hSw;obtain⟨s0,s1,s2,s3,s4,s5,s6⟩:=hSw
   go_simp
   all_goals with_reducible rfl
  try simp only[Act.put,List.setIfInBounds_toArray,List.set_cons_zero,List.set_cons_succ]
  refine z00 (i:=2) (v:=?v2) rfl (by kernel_rfl) (by kernel_rfl) (by kernel_rfl) (by kernel_rfl) (by decide) (fun _ _ _ h=>h) hS (Or.inl ⟨by rfl,?hy2⟩) ?rest2
  case hy2=>
   intro wS hSw;obtain⟨s0,s1,s2,s3,s4,s5,s6⟩:=hSw
   go_simp
   all_goals with_reducible rfl
  try simp only[Act.put,List.setIfInBounds_toArray,List.set_cons_zero,List.set_cons_succ]
  refine z00 (i:=3) (v:=?v3) rfl (by kernel_rfl) (by kernel_rfl) (by kernel_rfl) (by kernel_rfl) (by decide) (fun _ _ _ h=>h) hS (Or.inl ⟨by rfl,?hy3⟩) ?rest3
  case hy3=>
   intro wS hSw;obtain⟨s0,s1,s2,s3,s4,s5,s6⟩:=hSw
   go_simp
   all_goals with_reducible rfl
  try simp only[Act.put,List.setIfInBounds_toArray,List.set_cons_zero,List.set_cons_succ]
  refine z00 (i:=4) (v:=?v4) rfl (by kernel_rfl) (by kernel_rfl) (by kernel_rfl) (by kernel_rfl) (by decide) (fun _ _ _ h=>h) hS (Or.inl ⟨by rfl,?hy4⟩) ?rest4
  case hy4=>
   intro wS hSw;obtain⟨s0,s1,s2,s3,s4,s5,s6⟩:=hSw
   go_simp
   all_goals with_reducible rfl
  try simp only[Act.put,List.setIfInBounds_toArray,List.set_cons_zero,List.set_cons_succ]
  refine z00 (i:=5) (v:=?v5) rfl (by kernel_rfl) (by kernel_rfl) (by kernel_rfl) (by kernel_rfl) (by decide) (fun _ _ _ h=>h) hS (Or.inl ⟨by rfl,?hy5⟩) ?rest5
  case hy5=>
   intro wS hSw;obtain⟨s0,s1,s2,s3,s4,s5,s6⟩:=hSw
   go_simp
   all_goals with_reducible rfl
  try simp only[Act.put,List.setIfInBounds_toArray,List.set_cons_zero,List.set_cons_succ]
  refine z00 (i:=6) (v:=?v6) rfl (by kernel_rfl) (by kernel_rfl) (by kernel_rfl) (by kernel_rfl) (by decide) (fun _ _ _ h=>h) hS (Or.inl ⟨by rfl,?hy6⟩) ?rest6
  case hy6=>
   intro wS hSw;obtain⟨s0,s1,s2,s3,s4,s5,s6⟩:=hSw
   go_simp
   all_goals with_reducible rfl
  try simp only[Act.put,List.setIfInBounds_toArray,List.set_cons_zero,List.set_cons_succ]
  refine z00 (i:=7) (v:=?v7) rfl (by kernel_rfl) (by kernel_rfl) (by kernel_rfl) (by kernel_rfl) (by decide) (fun _ _ _ h=>h) hS (Or.inl ⟨by rfl,?hy7⟩) ?rest7
  case hy7=>
   intro wS hSw;obtain⟨s0,s1,s2,s3,s4,s5,s6⟩:=hSw
   go_simp
   all_goals with_reducible rfl
  try simp only[Act.put,List.setIfInBounds_toArray,List.set_cons_zero,List.set_cons_succ]
  refine z00 (i:=8) (v:=?v8) rfl (by kernel_rfl) (by kernel_rfl) (by kernel_rfl) (by kernel_rfl) (by decide) (fun _ _ _ h=>h) hS (Or.inl ⟨by rfl,?hy8⟩) ?rest8
  case hy8=>
   intro wS hSw;obtain⟨s0,s1,s2,s3,s4,s5,s6⟩:=hSw
   go_simp
   all_goals with_reducible rfl
  try simp only[Act.put,List.setIfInBounds_toArray,List.set_cons_zero,List.set_cons_succ]
  refine z00 (i:=9) (v:=?v9) rfl (by kernel_rfl) (by kernel_rfl) (by kernel_rfl) (by kernel_rfl) (by decide) (fun _ _ _ h=>h) hS (Or.inl ⟨by rfl,?hy9⟩) ?rest9
  case hy9=>
   intro wS hSw;obtain⟨s0,s1,s2,s3,s4,s5,s6⟩:=hSw
   go_simp
   all_goals with_reducible rfl
  try simp only[Act.put,List.setIfInBounds_toArray,List.set_cons_zero,List.set_cons_succ]
  refine z00 (i:=10) (v:=?v10) rfl (by kernel_rfl) (by kernel_rfl) (by kernel_rfl) (by kernel_rfl) (by decide) (fun _ _ _ h=>h) hS (Or.inl ⟨by rfl,?hy10⟩) ?rest10
  case hy10=>
   intro wS hSw;obtain⟨s0,s1,s2,s3,s4,s5,s6⟩:=hSw
   go_simp
   all_goals with_reducible rfl
  try simp only[Act.put,List.setIfInBounds_toArray,List.set_cons_zero,List.set_cons_succ]
  refine z00 (i:=11) (v:=?v11) rfl (by kernel_rfl) (by kernel_rfl) (by kernel_rfl) (by kernel_rfl) (by decide) (fun _ _ _ h=>h) hS (Or.inl ⟨by rfl,?hy11⟩) ?rest11
  case hy11=>
   intro wS hSw;obtain⟨s0,s1,s2,s3,s4,s5,s6⟩:=hSw
   go_simp
   all_goals with_reducible rfl
  try simp only[Act.put,List.setIfInBounds_toArray,List.set_cons_zero,List.set_cons_succ]
  refine z00 (i:=12) (v:=?v12) rfl (by kernel_rfl) (by kernel_rfl) (by kernel_rfl) (by kernel_rfl) (by decide) (fun _ _ _ h=>h) hS (Or.inl ⟨by rfl,?hy12⟩) ?rest12
  case hy12=>
   intro wS hSw;obtain⟨s0,s1,s2,s3,s4,s5,s6⟩:=hSw
   go_simp
   all_goals with_reducible rfl
  try simp only[Act.put,List.setIfInBounds_toArray,List.set_cons_zero,List.set_cons_succ]
  refine z00 (i:=13) (v:=?v13) rfl (by kernel_rfl) (by kernel_rfl) (by kernel_rfl) (by kernel_rfl) (by decide) (fun _ _ _ h=>h) hS (Or.inl ⟨by rfl,?hy13⟩) ?rest13
  case hy13=>
   intro wS hSw;obtain⟨s0,s1,s2,s3,s4,s5,s6⟩:=hSw
   go_simp
   all_goals with_reducible rfl
  try simp only[Act.put,List.setIfInBounds_toArray,List.set_cons_zero,List.set_cons_succ]
  refine z00 (i:=14) (v:=?v14) rfl (by kernel_rfl) (by kernel_rfl) (by kernel_rfl) (by kernel_rfl) (by decide) (fun _ _ _ h=>h) hS (Or.inl ⟨by rfl,?hy14⟩) ?rest14
  case hy14=>
   intro wS hSw;obtain⟨s0,s1,s2,s3,s4,s5,s6⟩:=hSw
   go_simp
   all_goals with_reducible rfl
  try simp only[Act.put,List.setIfInBounds_toArray,List.set_cons_zero,List.set_cons_succ]
  refine z00 (i:=15) (v:=?v15) rfl (by kernel_rfl) (by kernel_rfl) (by kernel_rfl) (by kernel_rfl) (by decide) (fun _ _ _ h=>h) hS (Or.inl ⟨by rfl,?hy15⟩) ?rest15
  case hy15=>
   intro wS hSw;obtain⟨s0,s1,s2,s3,s4,s5,s6⟩:=hSw
   go_simp
   all_goals with_reducible rfl
  try simp only[Act.put,List.setIfInBounds_toArray,List.set_cons_zero,List.set_cons_succ]
  refine z00 (i:=16) (v:=?v16) rfl (by kernel_rfl) (by kernel_rfl) (by kernel_rfl) (by kernel_rfl) (by decide) (fun _ _ _ h=>h) hS (Or.inl ⟨by rfl,?hy16⟩) ?rest16
  case hy16=>
   intro wS hSw;obtain⟨s0,s1,s2,s3,s4,s5,s6⟩:=hSw
   go_simp
   all_goals with_reducible rfl
  try simp only[Act.put,List.setIfInBounds_toArray,List.set_cons_zero,List.set_cons_succ]
  refine z00 (i:=17) (v:=?v17) rfl (by kernel_rfl) (by kernel_rfl) (by kernel_rfl) (by kernel_rfl) (by decide) (fun _ _ _ h=>h) hS (Or.inl ⟨by rfl,?hy17⟩) ?rest17
  case hy17=>
   intro wS hSw;obtain⟨s0,s1,s2,s3,s4,s5,s6⟩:=hSw
   go_simp
   all_goals with_reducible rfl
  try simp only[Act.put,List.setIfInBounds_toArray,List.set_cons_zero,List.set_cons_succ]
  have HSF:=hid (fun W (hW:Fr [] w2 W)=>(show(fun wx=>wx.cell? ⟨kb,1,none⟩=some (.slice (some ⟨rg,0,none⟩) (m+1) rc)∧wx.cell? ⟨rg,m,none⟩=some (.slice LA ll lc)∧wx.cell? ⟨sg,i * 10+2,none⟩=some (.int .i64 x.item.kind)∧wx.cell? ⟨sg,i * 10+3,none⟩=some (.string x.item.text)∧wx.cell? ⟨sg,i * 10+4,none⟩=some (.slice X1 x.item.list.length x1)∧wx.cell? ⟨sg,i * 10+5,none⟩=some (.slice X2 x.item.pairs.length x2)∧wx.cell? ⟨sg,i * 10+6,none⟩=some (.slice X3 x.item.scores.length x3)) W from⟨hW.cell e1 (by simp),hW.cell e2 (by simp),hW.cell r2 (by simp),hW.cell r3 (by simp),hW.cell r4 (by simp),hW.cell r5 (by simp),hW.cell r6 (by simp)⟩));have SIMPS:=True.intro;refine z10 (k:=18) (by kernel_rfl) rfl (fun K1 hK1=>?_)
  go_simp
  go_at_call 44;refine(IB.out _ (Fr.refl [] w2).drew).mono ?_;rintro e3 w3 ⟨rfl,f3⟩;have F3:=hid (z01 f3);have hz3:=F3.out.size;refine hK1.out _ _ (fun _=>HSF.out _ F3.out) ?_;clear hK1 hS f3
  try simp only[Act.put,List.setIfInBounds_toArray,List.set_cons_zero,List.set_cons_succ]
  refine z10 (k:=19) (by kernel_rfl) rfl (fun K2 hK2=>?_)
  go_simp
  have F4:=hid (F3.out.trans ((Fr.refl [] w3).alloc (.cells #[.string bs] 9)));refine hK2.out _ _ (fun _=>HSF.out _ F4.out) ?_;clear hK2
  try simp only[Act.put,List.setIfInBounds_toArray,List.set_cons_zero,List.set_cons_succ]
  have HT4:=hid (show(w3.alloc (.cells #[.string bs] 9)).ownsRow md 9 1 (.slice LA ll lc) ll (z04 l) from by rw[HLL.out];exact z05 HT.out F4.out (by simp));have hO4:=hid (z0o (World.ownsRow_lit (base:=w3.heap.size) (e:=9) (size:=1) w3 #[.string bs] 1 (Nat.le_refl _) (by decide) rfl));have nk:=fun hm=>z32 HT4.out (K.out.k.fr F4.out (by simp)) (by decide) hm;have HR4:=hid (z05 HV3.out F4.out (by simp));have HO4:=hid (z05 HRO.out F4.out (by simp));have nr:=z0i HR4.out HT4.out (by decide) rg rfl;have ns:=z0i HO4.out HT4.out (by decide) sg rfl;have hmz:=K.out.mz;refine z10 (k:=20) (by kernel_rfl) rfl (fun K3 hK3=>?_);refine z3r _ (by rfl) _ _ 41 (by rfl) md 9 i0 _ 1 16 Tryz.underlying41 hi hz0 hz1 hz2' rfl (by decide) _ _ _ (by rfl) HT4.out _ _ 1 _ (by rfl) hO4.out (by simp[Value.oneCell']) ?c1 ?c2 ?c3 ?_
  case c1=>unfold maxLen;omega
  case c2=>omega
  case c3=>first|omega|(simp;omega)
  intro v5 w5 hown hgrow hat5;obtain⟨A5,c5,rfl,-⟩:=z02 hown;have HO5:=hid hown;have HG5:=hid hgrow;have ff:=hid (z1q hgrow);have S5:=hid (show(fun wx=>wx.cell? ⟨kb,1,none⟩=some (.slice (some ⟨rg,0,none⟩) (m+1) rc)∧wx.cell? ⟨rg,m,none⟩=some (.slice LA ll lc)∧wx.cell? ⟨sg,i * 10+2,none⟩=some (.int .i64 x.item.kind)∧wx.cell? ⟨sg,i * 10+3,none⟩=some (.string x.item.text)∧wx.cell? ⟨sg,i * 10+4,none⟩=some (.slice X1 x.item.list.length x1)∧wx.cell? ⟨sg,i * 10+5,none⟩=some (.slice X2 x.item.pairs.length x2)∧wx.cell? ⟨sg,i * 10+6,none⟩=some (.slice X3 x.item.scores.length x3)) w5 from⟨ff.out.cell (F4.out.cell e1 (by simp)) nk,ff.out.cell (F4.out.cell e2 (by simp)) nr,ff.out.cell (F4.out.cell r2 (by simp)) ns,ff.out.cell (F4.out.cell r3 (by simp)) ns,ff.out.cell (F4.out.cell r4 (by simp)) ns,ff.out.cell (F4.out.cell r5 (by simp)) ns,ff.out.cell (F4.out.cell r6 (by simp)) ns⟩);refine hK3.out _ _ (fun _=>S5.out) ?_;clear hK3 hown hgrow
  try simp only[Act.put,List.setIfInBounds_toArray,List.set_cons_zero,List.set_cons_succ]
  refine z10 (k:=21) (by kernel_rfl) rfl (fun K4 hK4=>?_)
  go_simp
  refine hK4.out _ _ (fun _=>S5.out) ?_;clear hK4
  try simp only[Act.put,List.setIfInBounds_toArray,List.set_cons_zero,List.set_cons_succ]
  have HB:=hid hat5;have HR5:=hid (z05 HR4.out ff.out (fun k hk hm=>by cases hk;exact nr hm));have R5:=hid (z05 HO4.out ff.out (fun k hk hm=>by cases hk;exact ns hm));have K5:=hid (show Whole w5 kb 66 _ from(K.out.k.fr F4.out (by simp)).fr ff.out nk);have zr:=(z4n HR5.out).2.1 m;have yr:=S5.out.2.1;refine z10 (k:=22) (by kernel_rfl) rfl (fun K5' hK5=>?_)
  go_simp
  refine hK5.out _ _ (fun h=>absurd rfl h) ?_;clear hK5
  try simp only[Act.put,List.setIfInBounds_toArray,List.set_cons_zero,List.set_cons_succ]
  refine z5o (by kernel_rfl) ?_;have hkr:kb≠rg:=fun e=>z0g HR5.out K5.out (by decide) (by rw[e];rfl);have hks:kb≠sg:=fun e=>z0g R5.out K5.out (by decide) (by rw[e];rfl);have fr6:=hid (show Fr [rg] w5 (w5.setCell ⟨rg,m,none⟩ (.slice A5 (ll+1) c5)) from(Fr.refl [rg] w5).setCell (.inl (by simp)) _);have K6:=hid (K5.out.fr fr6.out (by simpa using hkr));have R6:=hid (z05 R5.out fr6.out (fun k hk hm=>by cases hk;exact z0i R5.out HR5.out (by decide) sg rfl (by rw[show sg=rg from by simpa using hm];simp[z1o])))
  have S6:=hid (show z14 (w5.setCell ⟨rg,m,none⟩ (.slice A5 (ll+1) c5)) base md (.slice (some ⟨sg,0,none⟩) s.slots.length sc) s.slots from
   (((K.out.sl.go F4.out).fr ff.out (fun k hk=>z2o HT4.out hk) (fun k hk hm=>by cases hk;exact ns hm)).row HR5.out ⟨z3w,by decide⟩ fr6.out))
  have m6:(w5.setCell ⟨rg,m,none⟩ (.slice A5 (ll+1) c5)).cell? ⟨rg,m,none⟩=some (.slice A5 (ll+1) c5):=by
   obtain⟨cur,hw,q1,q2,-⟩:=z1i HR5.out;have:=(hw.set_ m (.slice A5 (ll+1) c5)).cell m;rw[this,List.getElem?_set,if_pos rfl,if_pos (by have:=HM.out;omega)]
  have G6:=hid (z44.put (n:=m) (x:=.slice A5 (ll+1) c5) (l:=l++[bs]) (HV1.out.imp fun _ _ h=>z05 h F4.out (by simp)) HV2.out (by have:=HU.out;rw[HSUB.out,←HLL.out] at this;exact this) HR4.out ff.out (by
   have:=HO5.out;rw[HLL.out] at this ⊢;unfold TxO;rw[List.length_append,z4c];exact this) (fun k hk=>by
   rcases HB.out with h1|h1
   ·rw[h1] at hk;exact .inl (zfo hk)
   ·rw[h1] at hk;cases hk;exact .inr (Nat.le_refl _)))
  have HRS6:=hid S6.out;obtain⟨rs6,hrs6,hro6⟩:=S6.out;obtain⟨cs6,hcs6,⟨⟨Y1,y1,Y2,y2,Y3,y3,rfl,-⟩,-⟩⟩:=hrs6.at_ i x HX.out;obtain⟨pa6,pf6,-⟩:=z4n hro6;have a106:=z8u hrs6;have cell6:∀j v,j < 10→(z1f x Y1 y1 Y2 y2 Y3 y3)[j]? = some v→(w5.setCell ⟨rg,m,none⟩ (.slice A5 (ll+1) c5)).cell? ⟨sg,i * 10+j,none⟩=some v:=fun j v hj hv=>pa6 _ v (by rw[z1w 10 rs6 i j _ a106 hcs6 hj];exact hv);obtain⟨w6,hw6⟩:∃w6,w6=w5.setCell ⟨rg,m,none⟩ (.slice A5 (ll+1) c5):=⟨_,rfl⟩;have hz6:w2.heap.size≤w6.heap.size:=by rw[hw6];exact Nat.le_trans F4.out.size (Nat.le_trans ff.out.size fr6.out.size)
  have FB6:=hid (show FrB [] base w w6 from by
   rw[hw6];exact((F2.out.trans (F4.out.toB base)).trans ((ff.out.toB base).more (fun k hk=>.inr (Nat.le_trans K.out.m (z2o HT4.out hk))))).setCell (p:=⟨rg,m,none⟩) (.inr (Nat.le_trans K.out.m qb)) _)
  have KM6:=hid K.out.m;rw[←hw6] at K6 R6 S6 m6 G6 cell6 pf6 ⊢;have k0:=cell6 0 _ (by decide) rfl;have k1:=cell6 1 _ (by decide) rfl;have k2:=cell6 2 _ (by decide) rfl;have k3:=cell6 3 _ (by decide) rfl;have k4:=cell6 4 _ (by decide) rfl;have k5:=cell6 5 _ (by decide) rfl;have k6:=cell6 6 _ (by decide) rfl;have k7:=cell6 7 _ (by decide) rfl;have k8:=cell6 8 _ (by decide) rfl;have z1:=pf6 (i * 10+1);have z2:=pf6 (i * 10+2);have z3:=pf6 (i * 10+3);have z4:=pf6 (i * 10+4);have z5:=pf6 (i * 10+5);have z6:=pf6 (i * 10+6);have z7:=pf6 (i * 10+7);have z8:=pf6 (i * 10+8);obtain⟨kk0,kk1⟩:=two K6.out;have kk1':w6.cell? ⟨kb,1,none⟩=some (.slice (some ⟨rg,0,none⟩) (m+1) rc):=by rw[←HM.out];exact kk1
  have hw4:IntKind.i64.wrap (((ll+1:Nat):Int) - 1)=(ll:Int):=by rw[IntKind.wrap_i64];omega
  have hw5:IntKind.i64.wrap ((ll:Int)+1 - 1)=(ll:Int):=by rw[IntKind.wrap_i64];omega
  clear kk0 kk1 e1 e2 r0 r2 r3 r4 r5 r6 cell6 pf6 pa6 yr zr g0 hw6 hrs6 hro6 hcs6 a106 hat5;go_wp2;go_ret;rw[ETT.out];show KpP base kb 0 _ w _ (z6x w6 sg (i * 10) [(1,.bool true),(2,.int .i64 0),(3,.string ⟨#[]⟩),(4,.slice none 0 0),(5,.slice none 0 0),(6,.slice none 0 0),(7,.int .i64 (m:Int)),(8,.int .i64 (ll:Int))]);have EY:zeb x (ss.length - 1) l.length={ x with cold:=true,item:=z2l 0,seg:=(m:Int),rcd:=(ll:Int) }:=by rw[HSUB.out,←HLL.out];rfl
  rw[EY,HSUB.out]
  have hSP:=z14.put (y:={ x with cold:=true,item:=z2l 0,seg:=(m:Int),rcd:=(ll:Int) }) S6.out HX.out [(1,.bool true),(2,.int .i64 0),(3,.string ⟨#[]⟩),(4,.slice none 0 0),(5,.slice none 0 0),(6,.slice none 0 0),(7,.int .i64 (m:Int)),(8,.int .i64 (ll:Int))] (fun p hp=>by
   simp at hp;rcases hp with rfl|rfl|rfl|rfl|rfl|rfl|rfl|rfl <;> simp) (fun w' cs hf hI=>by
   obtain⟨⟨B1,d1,B2,d2,B3,d3,rfl,-⟩,hb⟩:=hI;refine⟨⟨none,0,none,0,none,0,rfl,World.ownsRow_nil _ _ _ _,World.ownsRow_nil _ _ _ _,World.ownsRow_nil _ _ _ _⟩,fun u hu k hk=>?_⟩;simp[z7i,z1f] at hu;rcases hu with rfl|rfl|rfl|rfl|rfl|rfl|rfl|rfl|rfl|rfl <;> cases hk)
  have fr7:=z48 (g:=sg) (o:=i * 10) [(1,.bool true),(2,.int .i64 0),(3,.string ⟨#[]⟩),(4,.slice none 0 0),(5,.slice none 0 0),(6,.slice none 0 0),(7,.int .i64 (m:Int)),(8,.int .i64 (ll:Int))] w6;have hG:=G6.out.row R6.out ⟨by decide,by decide⟩ fr7;rw[List.length_set] at hSP hG;have hz7:=Nat.le_trans hz6 fr7.size;exact⟨rfl,FB6.out.trans ((fr7.toB base).more (fun k hk=>.inr (by simp at hk;subst hk;exact pb))),Nat.le_trans hz hz7,fun _=>⟨md,_,_,K6.out.fr fr7 (by simpa using hks),KM6.out,K.out.kb,hSP,hG,Nat.le_trans hmz hz7⟩⟩
end Go.Proofs.YtmkhmejempcimaaGreatDoor
