/- Contracts that the proof of E3 uses. No condition beyond those in each theorem. -/
import Derived.Test.YtamgdmiopinidaaGreatDoorSlE326
import Derived.Test.YtamgdmiopinidaaGreatDoorSlE330
import Derived.Test.YtamgdmiopinidaaGreatDoorSlE333
import Derived.Test.YtamgdmiopinidaaGreatDoorSlE334
import Derived.Test.YtamgdmiopinidaaGreatDoorSlE335
import Derived.Test.YtamgdmiopinidaaGreatDoorSlE337
import Derived.Test.YtamgdmiopinidaaGreatDoorSlE340
set_option linter.unusedVariables false
set_option linter.unusedSimpArgs false
set_option maxHeartbeats 8000000
set_option maxRecDepth 100000
namespace Go.Proofs.YtamgdmiopinidaaGreatDoor
open Lib (hid)
open Go.Proofs.Tryz (prog)
open Go.RowKit
theorem z2e{s:Shp}:∀(l:List ByteArray) (i:Nat),z5e s i l=true→∀k,k < l.length→s.num (i+k)=true→(z3v (wd l k).data.toList).isSome=true
 | [],i,_,k,hk,_=>by simp at hk
 | w :: l,i,h,k,hk,hn=>by
  unfold z5e at h
  rw[Bool.and_eq_true] at h
  cases k with
  | zero=>
   rw[Nat.add_zero] at hn
   have:=h.1
   rw[hn] at this
   simpa[isN,wd] using this
  | succ k=>
   have:=z2e l (i+1) h.2 k (by simpa using hk) (by rwa[show i+1+k=i+(k+1) from by omega])
   simpa[wd] using this
theorem z0c{s:Shp}{n:Nat}(h:s.bad n=false):s.least≤n:=by
 unfold Shp.bad at h
 rw[Bool.or_eq_false_iff,Bool.or_eq_false_iff] at h
 have:=of_decide_eq_false h.1.1
 omega
theorem zha{s:Shp}{n:Nat}(h:s.bad n=false)(hp:s.pairs=true):n % 2=1:=by
 unfold Shp.bad at h
 rw[Bool.or_eq_false_iff,hp,Bool.true_and] at h
 have:=of_decide_eq_false h.2
 omega
structure zu7(c:Cm)(l:List ByteArray):Prop where
 le:l.length≤11
 sz:∀t∈l,t.size≤60
 ok:c.shp.bad l.length=false
 nums:z5e c.shp 0 l=true
theorem z6n{l:List ByteArray}(h:z1l l=0):∃c0 l' c,l=c0 :: l'∧zrv c0=c.bs∧cmL l=some c∧zu7 c l':=by
 unfold z1l at h
 split at h
 ·exact absurd h (by assumption)
 ·rename_i hw
  obtain⟨h1,h2,h3⟩:=z3q (by simpa using hw)
  rcases l with _|⟨c0,l'⟩
  ·simp at h1
  ·split at h
   ·cases h
   ·rename_i c hc
    split at h
    ·cases h
    ·rename_i hb
     split at h
     ·rename_i hn
      refine⟨c0,l',c,rfl,zgs hc,hc,⟨by simp at h2;omega,fun t ht=>h3 t (.tail _ ht),?_,hn⟩⟩
      have:(c0 :: l').length - 1=l'.length:=by simp
      rw[this] at hb
      simpa using hb
     ·cases h
theorem zu9(g B0:Nat)(sv:Value)(now:Int)(lv:Value)(l:List ByteArray)(s:List Ent)(c0:ByteArray)(c:Cm)(w:World)(hk:zu7 c l)(ok:z1m s)(h0:0≤now∧now≤1000000)(hv:Vars w)(h:Dr g B0 sv now lv l s w) :
  Calls prog 86 #[.pointer (some ⟨g,0,none⟩),.string (toB c.bs)] w (ChD g B0 B0 sv now lv l (doC c s now (c0 :: l)) w):=by
 have hb:=hk.ok
 have hn:=hk.nums
 cases c
 case ping=>exact zuw g B0 sv now lv l s c0 w h
 case get=>
  have hl:1≤l.length:=z0c hb
  exact z50 g B0 sv now lv l s _ ⟨#[103,101,116]⟩ (.inl rfl) w (z0f _ _ _ _) h (fun W hF hd=>zxz g B0 sv now lv l s c0 W ok hl hk.le hk.sz hd)
 case set_=>
  have hl:2≤l.length:=z0c hb
  exact z50 g B0 sv now lv l s _ ⟨#[115,101,116]⟩ (.inr (.inl rfl)) w (z0f _ _ _ _) h (fun W hF hd=>zug g B0 sv now lv l s c0 W ok hl hk.le hk.sz hd)
 case append_=>
  have hl:2≤l.length:=z0c hb
  exact z50 g B0 sv now lv l s _ ⟨#[97,112,112,101,110,100]⟩ (.inr (.inr (.inl rfl))) w (z0f _ _ _ _) h (fun W hF hd=>zmk g B0 sv now lv l s c0 W ok hl hk.le hk.sz hd)
 case strlen=>
  have hl:1≤l.length:=z0c hb
  exact z50 g B0 sv now lv l s _ ⟨#[115,116,114,108,101,110]⟩ (.inr (.inr (.inr (.inl rfl)))) w (z0f _ _ _ _) h (fun W hF hd=>zow g B0 sv now lv l s c0 W ok hl hk.le hk.sz hd)
 case incrby=>
  have hl:2≤l.length:=z0c hb
  obtain⟨n1,h1⟩:=Option.isSome_iff_exists.1 (z2e l 0 hn 1 (by omega) rfl)
  exact z50 g B0 sv now lv l s _ ⟨#[105,110,99,114,98,121]⟩ (.inr (.inr (.inr (.inr (.inl rfl))))) w (z0f _ _ _ _) h (fun W hF hd=>zp5 g B0 sv now lv l s c0 W ok hl hk.le hk.sz n1 h1 (hv.fr hF) hd)
 case getrange=>
  have hl:3≤l.length:=z0c hb
  obtain⟨n1,h1⟩:=Option.isSome_iff_exists.1 (z2e l 0 hn 1 (by omega) rfl)
  obtain⟨n2,h2⟩:=Option.isSome_iff_exists.1 (z2e l 0 hn 2 (by omega) rfl)
  exact z50 g B0 sv now lv l s _ ⟨#[103,101,116,114,97,110,103,101]⟩ (.inr (.inr (.inr (.inr (.inr (rfl)))))) w (z0f _ _ _ _) h (fun W hF hd=>zir g B0 sv now lv l s c0 W ok hl hk.le hk.sz n1 h1 n2 h2 (hv.fr hF) hd)
 case del=>
  have hl:1≤l.length:=z0c hb
  exact z5g g B0 sv now lv l s _ ⟨#[100,101,108]⟩ (.inl rfl) w (z0f _ _ _ _) h (fun W hF hd=>zxl g B0 sv now lv l s c0 W ok hl hk.le hk.sz hd)
 case exists_=>
  have hl:1≤l.length:=z0c hb
  exact z5g g B0 sv now lv l s _ ⟨#[101,120,105,115,116,115]⟩ (.inr (.inl rfl)) w (z0f _ _ _ _) h (fun W hF hd=>zmm g B0 sv now lv l s c0 W ok hl hk.le hk.sz hd)
 case type_=>
  have hl:1≤l.length:=z0c hb
  exact z5g g B0 sv now lv l s _ ⟨#[116,121,112,101]⟩ (.inr (.inr (.inl rfl))) w (z0f _ _ _ _) h (fun W hF hd=>zt3 g B0 sv now lv l s c0 W ok hl hk.le hk.sz hd)
 case keys_=>
  have hl:1≤l.length:=z0c hb
  exact z5g g B0 sv now lv l s _ ⟨#[107,101,121,115]⟩ (.inr (.inr (.inr (.inl rfl)))) w (z0f _ _ _ _) h (fun W hF hd=>zrz g B0 sv now lv l s c0 W ok hl hk.le hk.sz h0 hd)
 case expire=>
  have hl:2≤l.length:=z0c hb
  obtain⟨n1,h1⟩:=Option.isSome_iff_exists.1 (z2e l 0 hn 1 (by omega) rfl)
  exact z5g g B0 sv now lv l s _ ⟨#[101,120,112,105,114,101]⟩ (.inr (.inr (.inr (.inr (.inl rfl))))) w (z0f _ _ _ _) h (fun W hF hd=>zn3 g B0 sv now lv l s c0 W ok hl hk.le hk.sz n1 h1 (hv.fr hF) h0 hd)
 case ttl=>
  have hl:1≤l.length:=z0c hb
  exact z5g g B0 sv now lv l s _ ⟨#[116,116,108]⟩ (.inr (.inr (.inr (.inr (.inr (.inl rfl)))))) w (z0f _ _ _ _) h (fun W hF hd=>zx9 g B0 sv now lv l s c0 W ok hl hk.le hk.sz h0 hd)
 case persist=>
  have hl:1≤l.length:=z0c hb
  exact z5g g B0 sv now lv l s _ ⟨#[112,101,114,115,105,115,116]⟩ (.inr (.inr (.inr (.inr (.inr (.inr (rfl))))))) w (z0f _ _ _ _) h (fun W hF hd=>zmo g B0 sv now lv l s c0 W ok hl hk.le hk.sz hd)
 case lpush=>
  have hl:2≤l.length:=z0c hb
  exact z4c g B0 sv now lv l s _ ⟨#[108,112,117,115,104]⟩ (.inl rfl) w (z0f _ _ _ _) h (fun W hF hd=>zkx true _ (.inl ⟨rfl,rfl⟩) g B0 sv now lv l s c0 W ok hl hk.le hk.sz hd)
 case rpush=>
  have hl:2≤l.length:=z0c hb
  exact z4c g B0 sv now lv l s _ ⟨#[114,112,117,115,104]⟩ (.inr (.inl rfl)) w (z0f _ _ _ _) h (fun W hF hd=>zkx false _ (.inr ⟨rfl,rfl⟩) g B0 sv now lv l s c0 W ok hl hk.le hk.sz hd)
 case lpop=>
  have hl:1≤l.length:=z0c hb
  exact z4c g B0 sv now lv l s _ ⟨#[108,112,111,112]⟩ (.inr (.inr (.inl rfl))) w (z0f _ _ _ _) h (fun W hF hd=>zoi true _ (.inl ⟨rfl,rfl⟩) g B0 sv now lv l s c0 W ok hl hk.le hk.sz hd)
 case rpop=>
  have hl:1≤l.length:=z0c hb
  exact z4c g B0 sv now lv l s _ ⟨#[114,112,111,112]⟩ (.inr (.inr (.inr (.inl rfl)))) w (z0f _ _ _ _) h (fun W hF hd=>zoi false _ (.inr ⟨rfl,rfl⟩) g B0 sv now lv l s c0 W ok hl hk.le hk.sz hd)
 case lrange=>
  have hl:3≤l.length:=z0c hb
  obtain⟨n1,h1⟩:=Option.isSome_iff_exists.1 (z2e l 0 hn 1 (by omega) rfl)
  obtain⟨n2,h2⟩:=Option.isSome_iff_exists.1 (z2e l 0 hn 2 (by omega) rfl)
  exact z4c g B0 sv now lv l s _ ⟨#[108,114,97,110,103,101]⟩ (.inr (.inr (.inr (.inr (.inl rfl))))) w (z0f _ _ _ _) h (fun W hF hd=>zn9 g B0 sv now lv l s c0 W ok hl hk.le hk.sz n1 h1 n2 h2 (hv.fr hF) hd)
 case ltrim=>
  have hl:3≤l.length:=z0c hb
  obtain⟨n1,h1⟩:=Option.isSome_iff_exists.1 (z2e l 0 hn 1 (by omega) rfl)
  obtain⟨n2,h2⟩:=Option.isSome_iff_exists.1 (z2e l 0 hn 2 (by omega) rfl)
  exact z4c g B0 sv now lv l s _ ⟨#[108,116,114,105,109]⟩ (.inr (.inr (.inr (.inr (.inr (.inl rfl)))))) w (z0f _ _ _ _) h (fun W hF hd=>zsy g B0 sv now lv l s c0 W ok hl hk.le hk.sz n1 h1 n2 h2 (hv.fr hF) hd)
 case lrem=>
  have hl:2≤l.length:=z0c hb
  exact z4c g B0 sv now lv l s _ ⟨#[108,114,101,109]⟩ (.inr (.inr (.inr (.inr (.inr (.inr (rfl))))))) w (z0f _ _ _ _) h (fun W hF hd=>zvv g B0 sv now lv l s c0 W ok hl hk.le hk.sz hd)
 case sadd=>
  have hl:2≤l.length:=z0c hb
  exact z57 g B0 sv now lv l s _ ⟨#[115,97,100,100]⟩ (.inl rfl) w (z0f _ _ _ _) h (fun W hF hd=>zus g B0 sv now lv l s c0 W ok hl hk.le hk.sz hd)
 case srem=>
  have hl:2≤l.length:=z0c hb
  exact z57 g B0 sv now lv l s _ ⟨#[115,114,101,109]⟩ (.inr (.inl rfl)) w (z0f _ _ _ _) h (fun W hF hd=>zwa g B0 sv now lv l s c0 W ok hl hk.le hk.sz hd)
 case sismember=>
  have hl:2≤l.length:=z0c hb
  exact z57 g B0 sv now lv l s _ ⟨#[115,105,115,109,101,109,98,101,114]⟩ (.inr (.inr (.inl rfl))) w (z0f _ _ _ _) h (fun W hF hd=>zhw g B0 sv now lv l s c0 W ok hl hk.le hk.sz hd)
 case smembers=>
  have hl:1≤l.length:=z0c hb
  exact z57 g B0 sv now lv l s _ ⟨#[115,109,101,109,98,101,114,115]⟩ (.inr (.inr (.inr (.inl rfl)))) w (z0f _ _ _ _) h (fun W hF hd=>zjj g B0 sv now lv l s c0 W ok hl hk.le hk.sz hd)
 case sinter=>
  have hl:1≤l.length:=z0c hb
  exact z57 g B0 sv now lv l s _ ⟨#[115,105,110,116,101,114]⟩ (.inr (.inr (.inr (.inr (.inl rfl))))) w (z0f _ _ _ _) h (fun W hF hd=>znw g B0 sv now lv l s c0 W ok hl hk.le hk.sz hd)
 case sunion=>
  have hl:1≤l.length:=z0c hb
  exact z57 g B0 sv now lv l s _ ⟨#[115,117,110,105,111,110]⟩ (.inr (.inr (.inr (.inr (.inr (.inl rfl)))))) w (z0f _ _ _ _) h (fun W hF hd=>zne g B0 sv now lv l s c0 W ok hl hk.le hk.sz hd)
 case sdiff=>
  have hl:1≤l.length:=z0c hb
  exact z57 g B0 sv now lv l s _ ⟨#[115,100,105,102,102]⟩ (.inr (.inr (.inr (.inr (.inr (.inr (rfl))))))) w (z0f _ _ _ _) h (fun W hF hd=>ztb g B0 sv now lv l s c0 W ok hl hk.le hk.sz hd)
 case hset=>
  have hl:3≤l.length:=z0c hb
  have hmm:l.length=2 * (l.length / 2)+1:=by have:=zha hb rfl;omega
  exact z6f g B0 sv now lv l s _ ⟨#[104,115,101,116]⟩ (.inl rfl) w (z0f _ _ _ _) h (fun W hF hd=>zuy g B0 sv now lv l s c0 W ok hl hk.le hk.sz (l.length / 2) hmm hd)
 case hget=>
  have hl:2≤l.length:=z0c hb
  exact z6f g B0 sv now lv l s _ ⟨#[104,103,101,116]⟩ (.inr (.inl rfl)) w (z0f _ _ _ _) h (fun W hF hd=>zw6 g B0 sv now lv l s c0 W ok hl hk.le hk.sz hd)
 case hdel=>
  have hl:2≤l.length:=z0c hb
  exact z6f g B0 sv now lv l s _ ⟨#[104,100,101,108]⟩ (.inr (.inr (.inl rfl))) w (z0f _ _ _ _) h (fun W hF hd=>zvr g B0 sv now lv l s c0 W ok hl hk.le hk.sz hd)
 case hgetall=>
  have hl:1≤l.length:=z0c hb
  exact z6f g B0 sv now lv l s _ ⟨#[104,103,101,116,97,108,108]⟩ (.inr (.inr (.inr (rfl)))) w (z0f _ _ _ _) h (fun W hF hd=>zmc g B0 sv now lv l s c0 W ok hl hk.le hk.sz hd)
 case zadd=>
  have hl:3≤l.length:=z0c hb
  have hmm:l.length=2 * (l.length / 2)+1:=by have:=zha hb rfl;omega
  have hnum:∀k,2 * k+2 < l.length→(z3v (wd l (2 * k+1)).data.toList).isSome=true:=fun k hk2=>z2e l 0 hn (2 * k+1) (by omega) (by show decide ((0+(2 * k+1)) % 2=1)=true;rw[decide_eq_true (by omega)])
  exact z44 g B0 sv now lv l s _ ⟨#[122,97,100,100]⟩ (.inl rfl) w (z0f _ _ _ _) h (fun W hF hd=>zvu g B0 sv now lv l s c0 W ok hl hk.le hk.sz (l.length / 2) hmm hnum (hv.fr hF) hd)
 case zrem=>
  have hl:2≤l.length:=z0c hb
  exact z44 g B0 sv now lv l s _ ⟨#[122,114,101,109]⟩ (.inr (.inl rfl)) w (z0f _ _ _ _) h (fun W hF hd=>zvc g B0 sv now lv l s c0 W ok hl hk.le hk.sz hd)
 case zscore=>
  have hl:2≤l.length:=z0c hb
  exact z44 g B0 sv now lv l s _ ⟨#[122,115,99,111,114,101]⟩ (.inr (.inr (.inl rfl))) w (z0f _ _ _ _) h (fun W hF hd=>zo1 g B0 sv now lv l s c0 W ok hl hk.le hk.sz hd)
 case zrank=>
  have hl:2≤l.length:=z0c hb
  exact z44 g B0 sv now lv l s _ ⟨#[122,114,97,110,107]⟩ (.inr (.inr (.inr (.inl rfl)))) w (z0f _ _ _ _) h (fun W hF hd=>zsl g B0 sv now lv l s c0 W ok hl hk.le hk.sz hd)
 case zrange=>
  have hl:3≤l.length:=z0c hb
  obtain⟨n1,h1⟩:=Option.isSome_iff_exists.1 (z2e l 0 hn 1 (by omega) rfl)
  obtain⟨n2,h2⟩:=Option.isSome_iff_exists.1 (z2e l 0 hn 2 (by omega) rfl)
  exact z44 g B0 sv now lv l s _ ⟨#[122,114,97,110,103,101]⟩ (.inr (.inr (.inr (.inr (.inl rfl))))) w (z0f _ _ _ _) h (fun W hF hd=>zp7 g B0 sv now lv l s c0 W ok hl hk.le hk.sz n1 h1 n2 h2 (hv.fr hF) hd)
 case zrangebyscore=>
  have hl:3≤l.length:=z0c hb
  obtain⟨n1,h1⟩:=Option.isSome_iff_exists.1 (z2e l 0 hn 1 (by omega) rfl)
  obtain⟨n2,h2⟩:=Option.isSome_iff_exists.1 (z2e l 0 hn 2 (by omega) rfl)
  exact z44 g B0 sv now lv l s _ ⟨#[122,114,97,110,103,101,98,121,115,99,111,114,101]⟩ (.inr (.inr (.inr (.inr (.inr (rfl)))))) w (z0f _ _ _ _) h (fun W hF hd=>zbn g B0 sv now lv l s c0 W ok hl hk.le hk.sz n1 h1 n2 h2 (hv.fr hF) hd)
theorem zjp{s:Shp}{k:Nat}{l:List ByteArray}{t:ByteArray}(h:l[k]? = some t):z5e s k (l.drop k)=((!s.num k||isN t)&&z5e s (k+1) (l.drop (k+1))):=by
 have hk:=(List.getElem?_eq_some_iff.1 h).1
 rw[List.drop_eq_getElem_cons hk,(List.getElem?_eq_some_iff.1 h).2]
 rfl
theorem zii{l:List ByteArray}(h:z0r l≠0):z1l l=z0r l:=if_pos h
theorem zm3{l:List ByteArray}(h:z0r l=0)(hc:cmL l=none):z1l l=5:=by
 unfold z1l
 rw[if_neg (by simpa using h),hc]
theorem zmr{l:List ByteArray}{c:Cm}(h:z0r l=0)(hc:cmL l=some c):z1l l=if c.shp.bad (l.length - 1)=true then 1 else if z5e c.shp 0 (l.drop 1)=true then 0 else 3:=by
 unfold z1l
 rw[if_neg (by simpa using h),hc]
def KnP(l:List ByteArray)(w:World)(e:Ending)(w':World):Prop:=e=.returned (.int .i64 (z1l l))∧Fr [] w w'
theorem zmp(l:List ByteArray)(A:Option Addr)(c B:Nat)(w:World)(hw:z0r l≠0)(hl:l.length≤281474976710656)(hB:B≤w.heap.size)(h:Sl w B 1 (.slice A l.length c) l.length (z03 l)) :
  Calls prog 12 #[.slice A l.length c] w (KnP l w):=by
 have CK:=hid (z6w l A c B w hl hB h)
 unfold KnP
 rw[zii hw]
 have q1:(z0r l != 0)=true:=by simpa using hw
 clear h hw
 generalize z0r l=code at *
 go_enter Tryz.func12,Tryz.ntmps12
 go_wp2_with fail
 refine CK.out.mono ?_
 rintro e1 w1 ⟨rfl,f1⟩
 go_wp2
 go_ret
 exact⟨rfl,f1⟩
theorem zma(l:List ByteArray)(A:Option Addr)(c B:Nat)(w:World)(hw:z0r l=0)(hc:cmL l=none)(hB:B≤w.heap.size)(h:Sl w B 1 (.slice A l.length c) l.length (z03 l)) :
  Calls prog 12 #[.slice A l.length c] w (KnP l w):=by
 obtain⟨h1,h2,h3⟩:=z3q hw
 have CK:=hid (z6w l A c B w (by omega) hB h)
 unfold KnP
 rw[zm3 hw hc]
 rw[hw] at CK
 rcases l with _|⟨c0,l'⟩
 ·simp at h1
 obtain⟨b,off,rfl,hb,hcc,hm,hat⟩:=h.at_ (by simp)
 have x0:=hat 0 _ rfl
 rw[Nat.add_zero] at x0
 have LW:=hid (fun W=>z9v c0 W (by have:=h3 c0 (.head _);omega))
 have OF:=hid (fun W=>zv3 (toB (zrv c0)) W (fun cc=>by rw[zrb];exact zqw hc cc))
 have ix0:(0:Int) < ((c0 :: l').length:Int):=by simp
 have hbw:b < w.heap.size:=by omega
 clear h hw hat h1 h2 h3 hc
 generalize (c0 :: l').length=n at *
 generalize toB (zrv c0)=tl at *
 go_enter Tryz.func12,Tryz.ntmps12
 go_wp2_with fail
 refine CK.out.mono ?_
 rintro e1 w1 ⟨rfl,f1⟩
 have x1:=f1.cell x0 (by simp)
 have F1:=hid f1
 clear f1 x0
 go_wp2_with fail
 refine(LW.out _).mono ?_
 rintro e2 w2 ⟨rfl,f2⟩
 have F2:=hid (F1.out.trans f2)
 clear f2 x1
 go_wp2_with fail
 refine(OF.out _).mono ?_
 rintro e3 w3 ⟨rfl,f3⟩
 have F3:=hid (F2.out.trans f3)
 clear f3
 go_wp2
 go_ret
 exact⟨rfl,F3.out.alloc _⟩
theorem zls(l:List ByteArray)(A:Option Addr)(c B:Nat)(cm:Cm)(w:World)(hw:z0r l=0)(hc:cmL l=some cm)(hv:Vars w)(hB:B≤w.heap.size)(h:Sl w B 1 (.slice A l.length c) l.length (z03 l)) :
  Calls prog 12 #[.slice A l.length c] w (KnP l w):=by
 obtain⟨h1,h2,h3⟩:=z3q hw
 have CK:=hid (z6w l A c B w (by omega) hB h)
 unfold KnP
 have EK:=hid (zmr hw hc)
 rw[hw] at CK
 rcases l with _|⟨c0,l'⟩
 ·simp at h1
 obtain⟨b,off,rfl,hb,hcc,hm,hat⟩:=h.at_ (by simp)
 have x0:=hat 0 _ rfl
 rw[Nat.add_zero] at x0
 have HAT:=hid (fun k t (hk:l'[k]? = some t)=>show w.cell? ⟨b,off+1+k,none⟩=some (.string t) from by
  have:=hat (k+1) (.string t) (by unfold z03;rw[List.map_cons,List.getElem?_cons_succ,List.getElem?_map,hk];rfl)
  rwa[show off+(k+1)=off+1+k from by omega] at this)
 have LW:=hid (fun W=>z9v c0 W (by have:=h3 c0 (.head _);omega))
 have OF:=hid (fun W=>zw3 cm W)
 have EL:zrv c0=cm.bs:=zgs hc
 rw[EL] at LW
 have TI:=hid (fun W t (ht:t∈l') (hV:Vars W)=>z8w t W hV (by have:=h3 t (.tail _ ht);omega))
 have HV:=hid hv
 obtain⟨n,hn⟩:∃n,n=l'.length:=⟨_,rfl⟩
 have hlen:(c0 :: l').length=n+1:=by simp[hn]
 have h12:n≤11:=by omega
 have HN:=hid hn
 rw[hlen] at CK hcc EK
 rw[hlen]
 have E1:n+1 - 1=n:=by omega
 rw[E1] at EK
 have ED:(c0 :: l').drop 1=l':=rfl
 rw[ED] at EK
 generalize hkn:z1l (c0 :: l')=kn at *
 have ix0:(0:Int) < ((n+1:Nat):Int):=by omega
 have hbw:b < w.heap.size:=by omega
 obtain⟨sh,hsh⟩:∃sh,sh=cm.shp:=⟨_,rfl⟩
 rw[←hsh] at EK OF
 unfold shpV at OF
 have NM:=hid (fun i hi W=>znn sh i hi W)
 unfold shpV at NM
 have hst:=hid (fun k t (hk:l'[k]? = some t)=>zjp (s:=sh) hk)
 clear h hw hat h1 h2 h3 hc hsh hv hn hkn hlen E1 ED EL
 unfold maxLen at hm
 generalize toB cm.bs=tl at *
 generalize hL:(sh.least:Int)=L at *
 generalize hM:zlt sh.most=M at *
 generalize hP:sh.pairs=P at *
 generalize zfq sh.nums=NS at *
 have QB:=hid (show sh.bad n=(decide ((n:Int) < L)||(decide (0≤M)&&decide (M < (n:Int)))||(P&&decide (n % 2=0))) from by
  unfold Shp.bad
  rw[hP,←hL,←hM]
  rcases sh.most with _|m
  ·simp[zlt]
  ·simp[zlt])
 clear hL hM hP
 go_enter Tryz.func12,Tryz.ntmps12
 go_wp2_with fail
 refine CK.out.mono ?_
 rintro e1 w1 ⟨rfl,f1⟩
 have x1:=f1.cell x0 (by simp)
 have F1:=hid f1
 clear f1 x0
 go_wp2_with fail
 refine(LW.out _).mono ?_
 rintro e2 w2 ⟨rfl,f2⟩
 have F2:=hid (F1.out.trans f2)
 clear f2 x1
 go_wp2_with fail
 refine(OF.out _).mono ?_
 rintro e3 w3 ⟨rfl,f3⟩
 have F3:=hid ((F2.out.trans f3).alloc (.cells #[.int .i64 L,.int .i64 M,.bool P,.string NS] 98))
 have W3:=hid (Whole.new w3 98 [.int .i64 L,.int .i64 M,.bool P,.string NS])
 have hzz:=Nat.le_trans F2.out.size f3.size
 clear f3
 have hpar:((n:Int) % 2==0)=decide (n % 2=0):=by
  rw[Bool.eq_iff_iff]
  simp
  omega
 go_upto_region 8 with fail
 go_cut [30] (fun sb wx=>sb=.bool (sh.bad n)∧wx=w3.alloc (.cells #[.int .i64 L,.int .i64 M,.bool P,.string NS] 98))
 case first=>
  rcases P with _|_
  all_goals
   obtain⟨y0,y1,y2,y3⟩:=four W3.out
   go_wp2
  all_goals
   go_meet
   case rel=>
    refine⟨?_,rfl⟩
    rw[QB.out]
    clear QB EK NM OF F3 W3 LW hst TI HAT
    try rw[decide_eq_false (show ¬0≤M by omega)]
    simp[*]
    try omega
 case rest=>
  obtain⟨rfl,rfl⟩:=hcut
  generalize sh.bad n=bd at *
  rcases bd with _|_
  ·have HE:=hid (show kn=if z5e sh 0 l'=true then 0 else 3 from by rw[EK.out];rfl)
   clear EK QB hpar OF CK LW
   by_cases hc1:c=1
   ·have hn0:n=0:=by omega
    subst hn0
    subst hc1
    have hl0:l'=[]:=List.length_eq_zero_iff.1 HN.out.symm
    have hk0:kn=0:=by rw[HE.out,hl0];rfl
    clear HE hl0
    subst hk0
    go_wp2
    go_loopg [58] 0 (fun y i wr=>y=0∧i=.int .i64 0∧wr=w3.alloc (.cells #[.int .i64 L,.int .i64 M,.bool P,.string NS] 98))
    case atStart=>exact⟨rfl,rfl,rfl⟩
    case round=>
     obtain⟨rfl,rfl,rfl⟩:=hrel
     go_wp2
     go_ret
     exact⟨rfl,F3.out⟩
   ·have sx3:¬(c:Int)=1:=by omega
    go_wp2
    go_loopg [58] n (fun y i wr=>∃k:Nat,y=n - k∧k≤n∧i=.int .i64 k∧z5e sh 0 l'=z5e sh k (l'.drop k)∧Whole wr w3.heap.size 98 [.int .i64 L,.int .i64 M,.bool P,.string NS]∧Fr [] w wr)
    case atStart=>exact⟨0,rfl,Nat.zero_le _,rfl,by rw[List.drop_zero],W3.out,F3.out⟩
    case round=>
     obtain⟨k,rfl,hk,rfl,he,hq,hf⟩:=hrel
     have EQ:=hid he
     have Q:=hid hq
     have F:=hid hf
     clear he hq hf
     by_cases hlt:k < n
     ·have hk2:k < l'.length:=by rw[←HN.out];exact hlt
      have EK:l'[k]? = some l'[k]:=List.getElem?_eq_getElem hk2
      have xw:=F.out.cell (HAT.out k _ EK) (by simp)
      have ST:=hid (hst.out k _ EK)
      have TK:=hid (fun W hV=>TI.out W l'[k] (List.getElem_mem hk2) hV)
      have NK:=hid (fun W=>NM.out k (by omega) W)
      unfold isN at ST
      unfold zhe at TK
      clear EK hst TI NM HAT
      generalize l'[k]=t at *
      have k1:k < n - 0:=hlt
      go_wp2_with fail
      refine(TK.out _ (HV.out.fr F.out)).mono ?_
      rintro e1 w4 ⟨v,rfl,-,-,f4⟩
      have F4:=hid (F.out.trans f4)
      have Q4:=hid (Q.out.fr f4 (by simp))
      clear f4 xw TK
      generalize (z3v t.data.toList).isSome=ib at *
      obtain⟨y0,y1,y2,y3⟩:=four Q4.out
      go_wp2_with fail
      refine(NK.out _).mono ?_
      rintro e2 w5 ⟨rfl,f5⟩
      have F5:=hid (F4.out.trans f5)
      have Q5:=hid (Q4.out.fr f5 (by simp))
      clear f5 NK y0 y1 y2 y3
      generalize sh.num k=nb at *
      rcases nb with _|_ <;> rcases ib with _|_
      case true.false=>
       have hk3:kn=3:=by rw[HE.out,EQ.out,ST.out];rfl
       go_wp2
       go_ret
       exact⟨by rw[hk3];rfl,F5.out⟩
      all_goals
       have E2:=hid (show z5e sh 0 l'=z5e sh (k+1) (l'.drop (k+1)) from by rw[EQ.out,ST.out];rfl)
       go_wp2
       go_roundg (n - (k+1))
       case measure=>omega
       case rel=>exact⟨k+1,rfl,by omega,by go_num,E2.out,Q5.out,F5.out⟩
     ·obtain rfl:k=n:=by omega
      have hk0:kn=0:=by
       rw[HE.out,EQ.out,HN.out,List.drop_length]
       rfl
      go_wp2
      go_ret
      exact⟨by rw[hk0];rfl,F.out⟩
  ·go_wp2
   go_ret
   refine⟨?_,F3.out⟩
   rw[EK.out]
   rfl
theorem z9t(l:List ByteArray)(A:Option Addr)(c B:Nat)(w:World)(hl:l.length≤281474976710656)(hv:Vars w)(hB:B≤w.heap.size)(h:Sl w B 1 (.slice A l.length c) l.length (z03 l)) :
  Calls prog 12 #[.slice A l.length c] w (KnP l w):=by
 by_cases hw:z0r l=0
 ·rcases hc:cmL l with _|cm
  ·exact zma l A c B w hw hc hB h
  ·exact zls l A c B cm w hw hc hv hB h
 ·exact zmp l A c B w hw hl hB h
end Go.Proofs.YtamgdmiopinidaaGreatDoor
