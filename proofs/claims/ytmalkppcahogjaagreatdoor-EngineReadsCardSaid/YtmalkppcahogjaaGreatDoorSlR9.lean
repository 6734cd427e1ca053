/- Contracts; no condition but each theorem's own. -/
import Derived.Test.YtmalkppcahogjaaGreatDoorSlR7
import Derived.Test.YtmalkppcahogjaaGreatDoorSlR8
import Derived.Laws.IdiomStrings
set_option linter.unusedVariables false
set_option linter.unusedSimpArgs false
set_option maxHeartbeats 8000000
set_option maxRecDepth 100000
namespace Go.Proofs.YtmalkppcahogjaaGreatDoor
open Lib (hid)
open Go.Proofs.Tryz (prog)
open Go.RowKit
def zg7(n:Nat):ByteArray:=match n with
 | 0=>⟨#[]⟩
 | 1=>⟨#[49]⟩
 | 2=>⟨#[49,50]⟩
 | _=>⟨#[112]⟩
def znu(m:Option Nat):Int:=match m with
 | some m=>(m:Int)
 | none=>-1
def shpV(s:Shp):Value:=.agg #[.int .i64 (s.least:Int),.int .i64 (znu s.most),.bool s.pairs,.string (zg7 s.nums)]
theorem of_k0(t:ByteArray)(ht:t=⟨#[112,105,110,103]⟩)(w:World):Calls prog 77 #[.string t] w fun e w'=>e=.returned (.tuple #[.agg #[.int .i64 0,.int .i64 0,.bool false,.string ⟨#[]⟩],.bool true])∧Fr [] w w':=by
 subst ht
 all_goals
  go_enter Tryz.func77,Tryz.ntmps77;go_wp2;refine bodyPost_ret (v:=.tuple #[.agg #[.int .i64 0,.int .i64 0,.bool false,.string ⟨#[]⟩],.bool true]) (by simp[results,Tryz.results77,go_sem]) rfl ?_;exact⟨rfl,((((Fr.refl [] w).alloc _))) ⟩
theorem zec(t:ByteArray)(ht:t=⟨#[103,101,116]⟩∨t=⟨#[115,116,114,108,101,110]⟩∨t=⟨#[116,121,112,101]⟩∨t=⟨#[107,101,121,115]⟩∨t=⟨#[116,116,108]⟩∨t=⟨#[112,101,114,115,105,115,116]⟩∨t=⟨#[108,112,111,112]⟩∨t=⟨#[114,112,111,112]⟩∨t=⟨#[115,109,101,109,98,101,114,115]⟩∨t=⟨#[104,103,101,116,97,108,108]⟩)(w:World):Calls prog 77 #[.string t] w fun e w'=>e=.returned (.tuple #[.agg #[.int .i64 1,.int .i64 1,.bool false,.string ⟨#[]⟩],.bool true])∧Fr [] w w':=by
 rcases ht with rfl|rfl|rfl|rfl|rfl|rfl|rfl|rfl|rfl|rfl
 all_goals
  go_enter Tryz.func77,Tryz.ntmps77;go_wp2;refine bodyPost_ret (v:=.tuple #[.agg #[.int .i64 1,.int .i64 1,.bool false,.string ⟨#[]⟩],.bool true]) (by simp[results,Tryz.results77,go_sem]) rfl ?_;exact⟨rfl,((((Fr.refl [] w).alloc _))) ⟩
theorem zl3(t:ByteArray)(ht:t=⟨#[115,101,116]⟩∨t=⟨#[97,112,112,101,110,100]⟩∨t=⟨#[108,114,101,109]⟩∨t=⟨#[115,105,115,109,101,109,98,101,114]⟩∨t=⟨#[104,103,101,116]⟩∨t=⟨#[122,115,99,111,114,101]⟩∨t=⟨#[122,114,97,110,107]⟩)(w:World):Calls prog 77 #[.string t] w fun e w'=>e=.returned (.tuple #[.agg #[.int .i64 2,.int .i64 2,.bool false,.string ⟨#[]⟩],.bool true])∧Fr [] w w':=by
 rcases ht with rfl|rfl|rfl|rfl|rfl|rfl|rfl
 all_goals
  go_enter Tryz.func77,Tryz.ntmps77;go_wp2;refine bodyPost_ret (v:=.tuple #[.agg #[.int .i64 2,.int .i64 2,.bool false,.string ⟨#[]⟩],.bool true]) (by simp[results,Tryz.results77,go_sem]) rfl ?_;exact⟨rfl,((((Fr.refl [] w).alloc _))) ⟩
theorem q04(t:ByteArray)(ht:t=⟨#[105,110,99,114,98,121]⟩∨t=⟨#[101,120,112,105,114,101]⟩)(w:World):Calls prog 77 #[.string t] w fun e w'=>e=.returned (.tuple #[.agg #[.int .i64 2,.int .i64 2,.bool false,.string ⟨#[49]⟩],.bool true])∧Fr [] w w':=by
 rcases ht with rfl|rfl
 all_goals
  go_enter Tryz.func77,Tryz.ntmps77;go_wp2;refine bodyPost_ret (v:=.tuple #[.agg #[.int .i64 2,.int .i64 2,.bool false,.string ⟨#[49]⟩],.bool true]) (by simp[results,Tryz.results77,go_sem]) rfl ?_;exact⟨rfl,((((Fr.refl [] w).alloc _))) ⟩
theorem zqh(t:ByteArray)(ht:t=⟨#[103,101,116,114,97,110,103,101]⟩∨t=⟨#[108,114,97,110,103,101]⟩∨t=⟨#[108,116,114,105,109]⟩∨t=⟨#[122,114,97,110,103,101]⟩∨t=⟨#[122,114,97,110,103,101,98,121,115,99,111,114,101]⟩)(w:World):Calls prog 77 #[.string t] w fun e w'=>e=.returned (.tuple #[.agg #[.int .i64 3,.int .i64 3,.bool false,.string ⟨#[49,50]⟩],.bool true])∧Fr [] w w':=by
 rcases ht with rfl|rfl|rfl|rfl|rfl
 all_goals
  go_enter Tryz.func77,Tryz.ntmps77;go_wp2;refine bodyPost_ret (v:=.tuple #[.agg #[.int .i64 3,.int .i64 3,.bool false,.string ⟨#[49,50]⟩],.bool true]) (by simp[results,Tryz.results77,go_sem]) rfl ?_;exact⟨rfl,((((Fr.refl [] w).alloc _))) ⟩
theorem zrs(t:ByteArray)(ht:t=⟨#[100,101,108]⟩∨t=⟨#[101,120,105,115,116,115]⟩∨t=⟨#[115,105,110,116,101,114]⟩∨t=⟨#[115,117,110,105,111,110]⟩∨t=⟨#[115,100,105,102,102]⟩)(w:World):Calls prog 77 #[.string t] w fun e w'=>e=.returned (.tuple #[.agg #[.int .i64 1,.int .i64 (-1),.bool false,.string ⟨#[]⟩],.bool true])∧Fr [] w w':=by
 rcases ht with rfl|rfl|rfl|rfl|rfl
 all_goals
  go_enter Tryz.func77,Tryz.ntmps77;go_wp2;refine bodyPost_ret (v:=.tuple #[.agg #[.int .i64 1,.int .i64 (-1),.bool false,.string ⟨#[]⟩],.bool true]) (by simp[results,Tryz.results77,go_sem]) rfl ?_;exact⟨rfl,((((Fr.refl [] w).alloc _))) ⟩
theorem zn2(t:ByteArray)(ht:t=⟨#[108,112,117,115,104]⟩∨t=⟨#[114,112,117,115,104]⟩∨t=⟨#[115,97,100,100]⟩∨t=⟨#[115,114,101,109]⟩∨t=⟨#[104,100,101,108]⟩∨t=⟨#[122,114,101,109]⟩)(w:World):Calls prog 77 #[.string t] w fun e w'=>e=.returned (.tuple #[.agg #[.int .i64 2,.int .i64 (-1),.bool false,.string ⟨#[]⟩],.bool true])∧Fr [] w w':=by
 rcases ht with rfl|rfl|rfl|rfl|rfl|rfl
 all_goals
  go_enter Tryz.func77,Tryz.ntmps77;go_wp2;refine bodyPost_ret (v:=.tuple #[.agg #[.int .i64 2,.int .i64 (-1),.bool false,.string ⟨#[]⟩],.bool true]) (by simp[results,Tryz.results77,go_sem]) rfl ?_;exact⟨rfl,((((Fr.refl [] w).alloc _))) ⟩
theorem of_k7(t:ByteArray)(ht:t=⟨#[104,115,101,116]⟩)(w:World):Calls prog 77 #[.string t] w fun e w'=>e=.returned (.tuple #[.agg #[.int .i64 3,.int .i64 (-1),.bool true,.string ⟨#[]⟩],.bool true])∧Fr [] w w':=by
 subst ht
 all_goals
  go_enter Tryz.func77,Tryz.ntmps77;go_wp2;refine bodyPost_ret (v:=.tuple #[.agg #[.int .i64 3,.int .i64 (-1),.bool true,.string ⟨#[]⟩],.bool true]) (by simp[results,Tryz.results77,go_sem]) rfl ?_;exact⟨rfl,((((Fr.refl [] w).alloc _))) ⟩
theorem of_k8(t:ByteArray)(ht:t=⟨#[122,97,100,100]⟩)(w:World):Calls prog 77 #[.string t] w fun e w'=>e=.returned (.tuple #[.agg #[.int .i64 3,.int .i64 (-1),.bool true,.string ⟨#[112]⟩],.bool true])∧Fr [] w w':=by
 subst ht
 all_goals
  go_enter Tryz.func77,Tryz.ntmps77;go_wp2;refine bodyPost_ret (v:=.tuple #[.agg #[.int .i64 3,.int .i64 (-1),.bool true,.string ⟨#[112]⟩],.bool true]) (by simp[results,Tryz.results77,go_sem]) rfl ?_;exact⟨rfl,((((Fr.refl [] w).alloc _))) ⟩
theorem z3o{s:ByteArray}{l:List UInt8}(h:s.data.toList≠l):(s.toList==l)=false:=by
 rw[beq_eq_false_iff_ne];intro e;apply h;rw[←e];exact(Lib.toList_data s).symm
theorem zxh(s:ByteArray)(w:World)(h:∀c:Cm,s.data.toList≠c.bs):Calls prog 77 #[.string s] w fun e w'=>e=.returned (.tuple #[.agg #[.int .i64 0,.int .i64 0,.bool false,.string ⟨#[]⟩],.bool false])∧Fr [] w w':=by
 have q_ping:=z3o (show s.data.toList≠[112,105,110,103] from h .ping);have q_get:=z3o (show s.data.toList≠[103,101,116] from h .get);have q_set_:=z3o (show s.data.toList≠[115,101,116] from h .set_);have q_append_:=z3o (show s.data.toList≠[97,112,112,101,110,100] from h .append_);have q_strlen:=z3o (show s.data.toList≠[115,116,114,108,101,110] from h .strlen);have q_incrby:=z3o (show s.data.toList≠[105,110,99,114,98,121] from h .incrby);have q_getrange:=z3o (show s.data.toList≠[103,101,116,114,97,110,103,101] from h .getrange);have q_del:=z3o (show s.data.toList≠[100,101,108] from h .del);have q_exists_:=z3o (show s.data.toList≠[101,120,105,115,116,115] from h .exists_);have q_type_:=z3o (show s.data.toList≠[116,121,112,101] from h .type_);have q_keys_:=z3o (show s.data.toList≠[107,101,121,115] from h .keys_);have q_expire:=z3o (show s.data.toList≠[101,120,112,105,114,101] from h .expire);have q_ttl:=z3o (show s.data.toList≠[116,116,108] from h .ttl);have q_persist:=z3o (show s.data.toList≠[112,101,114,115,105,115,116] from h .persist);have q_lpush:=z3o (show s.data.toList≠[108,112,117,115,104] from h .lpush);have q_rpush:=z3o (show s.data.toList≠[114,112,117,115,104] from h .rpush);have q_lpop:=z3o (show s.data.toList≠[108,112,111,112] from h .lpop);have q_rpop:=z3o (show s.data.toList≠[114,112,111,112] from h .rpop);have q_lrange:=z3o (show s.data.toList≠[108,114,97,110,103,101] from h .lrange);have q_ltrim:=z3o (show s.data.toList≠[108,116,114,105,109] from h .ltrim);have q_lrem:=z3o (show s.data.toList≠[108,114,101,109] from h .lrem);have q_sadd:=z3o (show s.data.toList≠[115,97,100,100] from h .sadd);have q_srem:=z3o (show s.data.toList≠[115,114,101,109] from h .srem);have q_sismember:=z3o (show s.data.toList≠[115,105,115,109,101,109,98,101,114] from h .sismember);have q_smembers:=z3o (show s.data.toList≠[115,109,101,109,98,101,114,115] from h .smembers);have q_sinter:=z3o (show s.data.toList≠[115,105,110,116,101,114] from h .sinter);have q_sunion:=z3o (show s.data.toList≠[115,117,110,105,111,110] from h .sunion);have q_sdiff:=z3o (show s.data.toList≠[115,100,105,102,102] from h .sdiff);have q_hset:=z3o (show s.data.toList≠[104,115,101,116] from h .hset);have q_hget:=z3o (show s.data.toList≠[104,103,101,116] from h .hget);have q_hdel:=z3o (show s.data.toList≠[104,100,101,108] from h .hdel);have q_hgetall:=z3o (show s.data.toList≠[104,103,101,116,97,108,108] from h .hgetall);have q_zadd:=z3o (show s.data.toList≠[122,97,100,100] from h .zadd);have q_zrem:=z3o (show s.data.toList≠[122,114,101,109] from h .zrem);have q_zscore:=z3o (show s.data.toList≠[122,115,99,111,114,101] from h .zscore);have q_zrank:=z3o (show s.data.toList≠[122,114,97,110,107] from h .zrank);have q_zrange:=z3o (show s.data.toList≠[122,114,97,110,103,101] from h .zrange);have q_zrangebyscore:=z3o (show s.data.toList≠[122,114,97,110,103,101,98,121,115,99,111,114,101] from h .zrangebyscore);clear h;go_enter Tryz.func77,Tryz.ntmps77;go_wp2
 refine bodyPost_ret (v:=.tuple #[.agg #[.int .i64 0,.int .i64 0,.bool false,.string ⟨#[]⟩],.bool false]) (by simp[results,Tryz.results77,go_sem]) rfl ?_;exact⟨rfl,((((Fr.refl [] w).alloc _))) ⟩
theorem zyw(c:Cm)(w:World):Calls prog 77 #[.string (toB c.bs)] w fun e w'=>e=.returned (.tuple #[shpV c.shp,.bool true])∧Fr [] w w':=by
 cases c
 case ping=>exact of_k0 _ (rfl) w
 case get=>exact zec _ (.inl rfl) w
 case set_=>exact zl3 _ (.inl rfl) w
 case append_=>exact zl3 _ (.inr (.inl rfl)) w
 case strlen=>exact zec _ (.inr (.inl rfl)) w
 case incrby=>exact q04 _ (.inl rfl) w
 case getrange=>exact zqh _ (.inl rfl) w
 case del=>exact zrs _ (.inl rfl) w
 case exists_=>exact zrs _ (.inr (.inl rfl)) w
 case type_=>exact zec _ (.inr (.inr (.inl rfl))) w
 case keys_=>exact zec _ (.inr (.inr (.inr (.inl rfl)))) w
 case expire=>exact q04 _ (.inr (rfl)) w
 case ttl=>exact zec _ (.inr (.inr (.inr (.inr (.inl rfl))))) w
 case persist=>exact zec _ (.inr (.inr (.inr (.inr (.inr (.inl rfl)))))) w
 case lpush=>exact zn2 _ (.inl rfl) w
 case rpush=>exact zn2 _ (.inr (.inl rfl)) w
 case lpop=>exact zec _ (.inr (.inr (.inr (.inr (.inr (.inr (.inl rfl))))))) w
 case rpop=>exact zec _ (.inr (.inr (.inr (.inr (.inr (.inr (.inr (.inl rfl)))))))) w
 case lrange=>exact zqh _ (.inr (.inl rfl)) w
 case ltrim=>exact zqh _ (.inr (.inr (.inl rfl))) w
 case lrem=>exact zl3 _ (.inr (.inr (.inl rfl))) w
 case sadd=>exact zn2 _ (.inr (.inr (.inl rfl))) w
 case srem=>exact zn2 _ (.inr (.inr (.inr (.inl rfl)))) w
 case sismember=>exact zl3 _ (.inr (.inr (.inr (.inl rfl)))) w
 case smembers=>exact zec _ (.inr (.inr (.inr (.inr (.inr (.inr (.inr (.inr (.inl rfl))))))))) w
 case sinter=>exact zrs _ (.inr (.inr (.inl rfl))) w
 case sunion=>exact zrs _ (.inr (.inr (.inr (.inl rfl)))) w
 case sdiff=>exact zrs _ (.inr (.inr (.inr (.inr (rfl))))) w
 case hset=>exact of_k7 _ (rfl) w
 case hget=>exact zl3 _ (.inr (.inr (.inr (.inr (.inl rfl))))) w
 case hdel=>exact zn2 _ (.inr (.inr (.inr (.inr (.inl rfl))))) w
 case hgetall=>exact zec _ (.inr (.inr (.inr (.inr (.inr (.inr (.inr (.inr (.inr (rfl)))))))))) w
 case zadd=>exact of_k8 _ (rfl) w
 case zrem=>exact zn2 _ (.inr (.inr (.inr (.inr (.inr (rfl)))))) w
 case zscore=>exact zl3 _ (.inr (.inr (.inr (.inr (.inr (.inl rfl)))))) w
 case zrank=>exact zl3 _ (.inr (.inr (.inr (.inr (.inr (.inr (rfl))))))) w
 case zrange=>exact zqh _ (.inr (.inr (.inr (.inl rfl)))) w
 case zrangebyscore=>exact zqh _ (.inr (.inr (.inr (.inr (rfl))))) w
theorem zxj:∀n,n < 3→∀i:Nat,i < 11→(⟨0,none,false,n⟩:Shp).num i=decide ((0:Int)≤Lib.indexByte (zg7 n).data.toList ((48+(i:Int)).toNat.toUInt8)):=by decide
theorem zxb{n:Nat}(h:3≤n):zg7 n=⟨#[112]⟩:=by
 match n,h with
 | n+3,_=>rfl
theorem num_p{l:Nat}{m:Option Nat}{p:Bool}{n:Nat}(h:3≤n)(i:Nat):(⟨l,m,p,n⟩:Shp).num i=decide (i % 2=1):=by
 match n,h with
 | n+3,_=>rfl
theorem zr9(sh:Shp)(i:Nat)(hi:i≤10)(w:World):Calls prog 80 #[shpV sh,.int .i64 i] w fun e w'=>e=.returned (.bool (sh.num i))∧Fr [] w w':=by
 obtain⟨least,most,pairs,nums⟩:=sh;show Calls prog 80 #[.agg #[.int .i64 (least:Int),.int .i64 (znu most),.bool pairs,.string (zg7 nums)],.int .i64 i] w _;generalize znu most=M;generalize (least:Int)=L;by_cases hp:3≤nums
 ·rw[zxb hp,num_p hp];have F0:=hid ((Fr.refl [] w).alloc (.cells #[.int .i64 L,.int .i64 M,.bool pairs,.string ⟨#[112]⟩] 120));clear hp;go_enter Tryz.func80,Tryz.ntmps80;go_wp2;go_ret;refine⟨?_,F0.out⟩;clear F0;have h11:i=0∨i=1∨i=2∨i=3∨i=4∨i=5∨i=6∨i=7∨i=8∨i=9∨i=10:=by omega
  rcases h11 with rfl|rfl|rfl|rfl|rfl|rfl|rfl|rfl|rfl|rfl|rfl <;> rfl
 ·have hn:(⟨least,most,pairs,nums⟩:Shp).num i=(⟨0,none,false,nums⟩:Shp).num i:=rfl;have hx:=zxj nums (by omega) i (by omega);rw[hn]
  have hne:(zg7 nums).data.toList≠[112]:=by
   have:nums=0∨nums=1∨nums=2:=by omega
   rcases this with rfl|rfl|rfl <;> decide
  have hpn:=z3o hne;have F0:=hid ((Fr.refl [] w).alloc (.cells #[.int .i64 L,.int .i64 M,.bool pairs,.string (zg7 nums)] 120));have IB:=hid (fun W=>Tryz.strings_IndexByte (zg7 nums) (48+(i:Int)) W);rw[hx];clear hx hn hne hp;generalize zg7 nums=nb at *;have hv:(48+(i:Int)) < 256:=by omega
  generalize Lib.indexByte nb.data.toList ((48+(i:Int)).toNat.toUInt8)=res at *;go_enter Tryz.func80,Tryz.ntmps80;go_wp2_with fail;refine(IB.out _).mono ?_;rintro e1 w1 ⟨rfl,rfl⟩;go_wp2;go_ret;exact⟨rfl,F0.out⟩
def zt6(w:World)(g:Nat)(l:List UInt8):Prop:=∃cur:Array Value,w.heap[g]? = some (.cells cur 5 (cur.size,cur.size+1))∧l.length≤cur.size∧∀j (hj:j < l.length),cur[j]? = some (.int .u8 (l[j].toNat:Int))
theorem zt6.cell{w:World}{g:Nat}{l:List UInt8}(h:zt6 w g l)(j:Nat)(hj:j < l.length):w.cell? ⟨g,j,none⟩=some (.int .u8 (l[j].toNat:Int)):=by
 obtain⟨cur,h1,h2,h3⟩:=h;simp[World.cell?,h1,h3 j hj]
theorem zt6.frozen{w:World}{g:Nat}{l:List UInt8}(h:zt6 w g l)(j:Nat)(hj:j < l.length):w.frozen? ⟨g,j,none⟩=false:=by
 obtain⟨cur,h1,h2,h3⟩:=h;simp[World.frozen?,h1];omega
theorem zt6.set_{w:World}{g:Nat}{l:List UInt8}(h:zt6 w g l)(j:Nat)(hj:j < l.length)(u:UInt8):zt6 (w.setCell ⟨g,j,none⟩ (.int .u8 (u.toNat:Int))) g (l.set j u):=by
 obtain⟨cur,h1,h2,h3⟩:=h;refine⟨cur.setIfInBounds j (.int .u8 (u.toNat:Int)),?_,by simpa using h2,fun i hi=>?_⟩
 ·simp[World.setCell,Array.getElem?_modify,h1]
 ·have hi':i < l.length:=by simpa using hi
  have:=h3 i hi';by_cases hji:j=i
  ·subst hji;rw[Array.getElem?_setIfInBounds_self_of_lt (by omega)];simp
  ·rw[Array.getElem?_setIfInBounds_ne hji,this];simp[List.getElem_set_ne hji]
theorem zsn(w:World)(s:ByteArray)(hs:s.size≤281474976710656):∃cap wb,(convert 9 157 (.string s)).run prog w=.ok (.slice (some ⟨w.heap.size,0,none⟩) s.size cap) wb∧Fr [] w wb∧zt6 wb w.heap.size s.data.toList:=by
 refine⟨_,_,Lib.run_convert_string_bytes w 9 157 5 s Tryz.underlying9 Tryz.underlying157 Tryz.underlying5,zlh _ _ _,_,Lib.bytesWorld_at_new _ _ _,?_,fun j hj=>?_⟩
 ·simp[Lib.bytesCells]
 ·have hj':j < s.data.size:=by simpa using hj
  have hj2:j < s.size:=hj';simp[Lib.bytesCells,Array.getElem?_append,hj',hj2]
theorem zqt(w:World)(g cap n:Nat)(l:List UInt8)(h:zt6 w g l)(hn:l.length=n):(convert 157 9 (.slice (some ⟨g,0,none⟩) n cap)).run prog w=.ok (.string (toB l)) w:=by
 subst hn
 exact run_convert_bytes_back (P:=prog) w 157 9 5 ⟨g,0,none⟩ cap l Tryz.underlying157 Tryz.underlying5 Tryz.underlying9 (fun j hj=>by
  have:=h.cell j hj
  have e2:(⟨g,0,none⟩:Addr).add j=⟨g,j,none⟩:=by
   unfold Addr.add;split
   ·rename_i h0;rw[h0]
   ·simp
  rw[e2,this])
def z7a(l:List UInt8)(k:Nat):List UInt8:=(l.take k).map zbs++l.drop k
theorem zh5(l:List UInt8)(k:Nat):(z7a l k).length=l.length:=by simp[z7a];omega
theorem zng(l:List UInt8):z7a l 0=l:=by simp[z7a]
theorem zrp(l:List UInt8):z7a l l.length=l.map zbs:=by simp[z7a]
theorem zvy(l:List UInt8)(k:Nat)(hk:k < l.length):(z7a l k)[k]? = some l[k]:=by
 unfold z7a;rw[List.getElem?_append_right (by simp;omega)];simp[Nat.min_eq_left (Nat.le_of_lt hk),hk]
theorem znr(l:List UInt8)(k:Nat)(hk:k < l.length):z7a l (k+1)=(z7a l k).set k (zbs l[k]):=by
 unfold z7a;have e1:=List.drop_eq_getElem_cons hk;have e2:((l.take k).map zbs).length=k:=by simp;omega
 rw[List.set_append_right _ _ (by rw[e2];exact Nat.le_refl _),e2,Nat.sub_self,e1,List.set_cons_zero,List.take_add_one,List.getElem?_eq_getElem hk];simp only[Option.toList_some,List.map_append,List.map_cons,List.map_nil,List.append_assoc,List.cons_append,List.nil_append]
theorem zuo{c:UInt8}(h:65≤c.toNat∧c.toNat≤90):((zbs c).toNat:Int)=c.toNat+32:=by
 unfold zbs;rw[if_pos h];have:(c+32).toNat=(c.toNat+32) % 256:=by rw[UInt8.toNat_add];rfl
 omega
theorem zup{c:UInt8}(h:¬(65≤c.toNat∧c.toNat≤90)):zbs c=c:=if_neg h
theorem za7(s:ByteArray)(w:World)(hs:s.size≤281474976710656):
  Calls prog 78 #[.string s] w fun e w'=>e=.returned (.string (toB (zwv s)))∧Fr [] w w':=by
 obtain⟨cap,wb,hconv,fb,hrow⟩:=zsn w s hs;have F0:=hid fb;have R0:=hid hrow;have LL:s.data.toList.length=s.size:=by simp
 have LN:=hid LL;have E:=hid (show zwv s=z7a s.data.toList s.data.toList.length from(zrp _).symm);clear fb hrow;generalize s.data.toList=l at *;go_enter Tryz.func78,Tryz.ntmps78;go_wp2;clear hconv;go_loopg [10] s.size (fun y i wr=>∃k:Nat,y=s.size - k∧k≤s.size∧i=.int .i64 k∧zt6 wr w.heap.size (z7a l k)∧Fr [] w wr)
 case atStart=>exact⟨0,rfl,Nat.zero_le _,rfl,by rw[zng];exact R0.out,F0.out⟩
 case round=>
  obtain⟨k,rfl,hk,rfl,hrow,hf⟩:=hrel;have R:=hid hrow;have F:=hid hf;clear hrow hf;by_cases hlt:k < s.size
  ·have hkl:k < l.length:=by rw[LN.out];exact hlt
   have hkl2:k < (z7a l k).length:=by rw[zh5];exact hkl
   have hc0:=R.out.cell k hkl2;have hf0:=R.out.frozen k hkl2
   have hat:(z7a l k)[k]=l[k]:=by
    have:=zvy l k hkl;rw[List.getElem?_eq_getElem hkl2] at this;exact Option.some.inj this
   rw[hat] at hc0;have ST:=hid (znr l k hkl);have hc255:(l[k].toNat:Int) < 256:=by have:=l[k].toNat_lt;omega
   have RS:=hid (fun u=>R.out.set_ k hkl2 u);have NO:=hid (show zbs l[k]=l[k]→(z7a l k).set k (zbs l[k])=z7a l k from fun e=>by rw[e,←hat,List.set_getElem_self]);have UP:=hid (@zuo l[k]);have NU:=hid (@zup l[k]);clear hat LL;generalize l[k]=c at *;generalize hcn:c.toNat=n at *;by_cases h1:65≤n
   ·by_cases h2:n≤90
    ·have UV:=hid (UP.out ⟨by omega,by omega⟩);go_wp2;go_roundg (s.size - (k+1))
     case measure=>omega
     case rel=>
      refine⟨k+1,rfl,by omega,by go_num,?_,F.out.setCell (p:=⟨w.heap.size,k,none⟩) (.inr (Nat.le_refl _)) _⟩;rw[ST.out];have:=RS.out (zbs c);rw[UV.out] at this;exact this
    ·have NV:=hid (NO.out (NU.out (fun h=>h2 (by omega))));go_wp2;go_roundg (s.size - (k+1))
     case measure=>omega
     case rel=>exact⟨k+1,rfl,by omega,by go_num,by rw[ST.out,NV.out];exact R.out,F.out⟩
   ·have NV:=hid (NO.out (NU.out (fun h=>h1 (by omega))));go_wp2;go_roundg (s.size - (k+1))
    case measure=>omega
    case rel=>exact⟨k+1,rfl,by omega,by go_num,by rw[ST.out,NV.out];exact R.out,F.out⟩
  ·obtain rfl:k=s.size:=by omega
   have hb:=zqt wr w.heap.size cap s.size (z7a l s.size) R.out (by rw[zh5,LN.out]);go_wp2;go_ret;exact⟨by rw[E.out,LN.out];rfl,F.out⟩
attribute [local go_sem] z1k
theorem z4i{l r:List UInt8}{n:Int}(h:zoa l=some (n,r)):z0i n=true∧r.length≤l.length:=by
 obtain⟨p,hp,h⟩:=Option.bind_eq_some_iff.1 h;obtain⟨m,hm,e⟩:=Option.map_eq_some_iff.1 h;cases e;have:=zcg (a:=p.1) (b:=p.2) hp;exact⟨(z4u.1 hm).1,by omega⟩
theorem zrc{n:Int}{l a r:List UInt8}(h:z9n n l=some (a,r)):r.length≤l.length:=by
 unfold z9n at h;split at h
 ·cases h
 ·split at h
  ·cases h;simp
  ·cases h
theorem zmg{l m:List UInt8}{x:Rp1}(h:z7y l=some (x,m)):m.length≤l.length∧x.sub=0:=by
 cases l with
 | nil=>cases h
 | cons c r=>
  by_cases h1:c.toNat=43
  ·rw[zaf h1] at h;obtain⟨p,hp,e⟩:=Option.map_eq_some_iff.1 h;cases e;have:=zcg (a:=p.1) (b:=p.2) hp;exact⟨by simp;omega,rfl⟩
  ·by_cases h2:c.toNat=45
   ·rw[z81 h2] at h;obtain⟨p,hp,e⟩:=Option.map_eq_some_iff.1 h;cases e;have:=(z4i (n:=p.1) (r:=p.2) hp).2;exact⟨by simp;omega,rfl⟩
   ·by_cases h3:c.toNat=58
    ·rw[z86 h3] at h;obtain⟨p,hp,e⟩:=Option.map_eq_some_iff.1 h;cases e;have:=(z4i (n:=p.1) (r:=p.2) hp).2;exact⟨by simp;omega,rfl⟩
    ·by_cases h4:c.toNat=36
     ·rw[z6z h4] at h;obtain⟨p,hp,e⟩:=Option.bind_eq_some_iff.1 h;have:=(z4i (n:=p.1) (r:=p.2) hp).2;by_cases h5:p.1=-1
      ·rw[if_pos h5] at e;cases e;exact⟨by simp;omega,rfl⟩
      ·rw[if_neg h5] at e;obtain⟨q,hq,e⟩:=Option.map_eq_some_iff.1 e;cases e;have:=zrc (a:=q.1) (r:=q.2) hq;exact⟨by simp;omega,rfl⟩
     ·rw[z9w h1 h2 h3 h4] at h;cases h
theorem zhv(l:List UInt8):za9 l=(zoa l).bind fun p=>zxc p.2 p.1:=by
 unfold za9 zoa;rcases z5p l with _|p
 ·rfl
 ·rw[Option.bind_some,Option.bind_some];rcases z2z p.1 with _|n <;> rfl
theorem ziu(k:Nat)(l:List UInt8)(acc:List Rp1):zmv (k+1) l acc=(z7y l).bind fun p=>zmv k p.2 (acc++[p.1]):=rfl
def ListP(g:Nat)(s:ByteArray)(w:World)(e:Ending)(w':World):Prop:=
 (∃(rp:Rep) (v:Value) (r:List UInt8),e=.returned v∧za9 s.data.toList=some (rp,r)∧z19 w' w.heap.size v rp∧Rr g (toB r) false w'∧Fr [g] w w') ∨
 (∃r A m c,e=.returned (.agg #[.int .i64 6,.string ⟨#[]⟩,.int .i64 0,.slice A m c])∧za9 s.data.toList=none∧Rr g (toB r) true w'∧Fr [g] w w')
theorem z65{w:World}{base e size n:Nat}{v:Value}{xs:List Value}(h:w.ownsRow base e size v n xs){p:Addr}(hp:p.block < base)(u:Value):(w.setCell p u).ownsRow base e size v n xs:=
 z22 u h (fun he=>by have:=(h.lt _ he).1;omega)
theorem zfh{w:World}{base e size n o:Nat}{v:Value}{xs:List Value}(h:w.ownsRow base e size v n xs)(ho:o < base)(a b c d:Value):(set4 w o a b c d).ownsRow base e size v n xs:=
 z65 (z65 (z65 (z65 h ho _) ho _) ho _) ho _
theorem zbp(l:List Rp1)(x:Rp1):z5b (l++[x])=z5b l++rp4 x none 0:=by simp[z5b]
theorem zpt(k n:Int)(t:ByteArray):∀u∈[Value.int .i64 k,.string t,.int .i64 n,.slice none 0 0],u.oneCell'=true:=by
 intro u hu;simp at hu;rcases hu with rfl|rfl|rfl|rfl <;> rfl
theorem zu3(w0:World)(g:Nat)(s:ByteArray)(w:World)(hs:s.size < 4294967281)(h:Rr g s false w)(hx:Ctx w0 g w):
  Calls prog 221 #[.pointer (some ⟨g,0,none⟩),.bool true] w (ListP g s w):=by
 have hg:=h.lt;have hne:w.heap.size≠g:=by omega
 have A1:=(Fr.refl [] w).alloc (.cells #[.int .i64 0,.string ⟨#[]⟩,.int .i64 0,.slice none 0 0] 27);have NU:=hid (z4e w0 g s _ hs (h.fr A1) (hx.same A1));have V1:=hid (Whole.new w 27 zat);have FA:=hid A1;have HX:=hid hx;have HD:=hid (zhv s.data.toList);obtain⟨i0,hi,hz0,hz1,hz2⟩:=info_parts zie;clear h hx A1;go_enter Tryz.func221,Tryz.ntmps221;go_wp2_with fail;refine NU.out.mono ?_;rintro e w1 ⟨n,r,b,rfl,hn,r1,f1,lr,hc⟩;have F1:=hid (FA.out.up.trans f1);have R1:=hid r1;have V2:=hid (V1.out.fr f1 (by simpa using hne));have hsz:=f1.size;have hg1:=r1.lt;have hh1:=V2.out.lt;obtain⟨⟨c0,c1⟩,z0,z1⟩:=R1.out.two;obtain⟨a0,a1,a2,a3⟩:=four V2.out;obtain⟨b0,b1,b2,b3⟩:=z0h V2.out;have hne1:¬w.heap.size=g:=hne;have hne2:¬g=w.heap.size:=fun e=>hne e.symm;have hhn:w.heap.size < w1.heap.size:=hh1;have HC:=hid hc;clear f1 r1 NU V1 hc;by_cases hbad:b=true∨n < 0
 ·have HN:=hid (show za9 s.data.toList=none from by
   rw[HD.out];obtain⟨h1,h2⟩|⟨h1,h2⟩:=HC.out
   ·rw[h2];obtain h|h:=hbad
    ·rw[h1] at h;cases h
    ·exact if_pos h
   ·rw[h2];rfl)
  clear HC HD
  have hcase:(b=true∧n > 0)∨(b=true∧¬n > 0)∨(b=false∧n < 0∧¬n > 0):=by
   cases b
   ·obtain h|h:=hbad
    ·cases h
    ·exact .inr (.inr ⟨rfl,h,by omega⟩)
   ·by_cases h:n > 0
    ·exact .inl ⟨rfl,h⟩
    ·exact .inr (.inl ⟨rfl,h⟩)
  clear hbad;rcases hcase with⟨rfl,hp⟩|⟨rfl,hp⟩|⟨rfl,hm,hp⟩
  ·go_wp2;go_loopg [5] 0 (fun x s5 wr=>x=0∧s5=.int .i64 n∧Rr g (toB r) true wr∧Whole wr w.heap.size 27 zat∧Whole wr w1.heap.size 27 [.int .i64 6,.string ⟨#[]⟩,.int .i64 0,.slice none 0 0]∧Fr [g] w wr)
   case atStart=>exact⟨rfl,rfl,Whole.alloc (Rr.set1 (b':=true) R1.out) _,Whole.alloc (Whole.far V2.out (p:=⟨g,1,none⟩) hne _) _,z5z _ _ _ _ _,(F1.out.gone _).alloc _⟩
   case round=>
    obtain⟨rfl,rfl,hR,hV,hO,hF⟩:=hrel;have RR:=hid hR;have VV:=hid hV;have OO:=hid hO;have FF:=hid hF;clear c0 c1 z0 z1 a0 a1 a2 a3 b0 b1 b2 b3 hR hV hO hF;obtain⟨⟨c0,c1⟩,z0,z1⟩:=RR.out.two;obtain⟨a0,a1,a2,a3⟩:=four VV.out;obtain⟨b0,b1,b2,b3⟩:=z0h VV.out;obtain⟨o0,o1,o2,o3⟩:=four OO.out;go_wp2;refine bodyPost_ret (v:=.agg #[.int .i64 6,.string ⟨#[]⟩,.int .i64 0,.slice none 0 0]) (by simp[results,Tryz.results221,go_sem,a0,a1,a2,a3]) rfl ?_;exact .inr ⟨r,_,_,_,rfl,HN.out,Rr.set4 RR.out (fun e=>hne e.symm) _ _ _ _,z0g FF.out (Nat.le_refl _) _ _ _ _⟩
  ·go_wp2;go_loopg [5] 0 (fun x s5 wr=>x=0∧s5=.int .i64 n∧Rr g (toB r) true wr∧Whole wr w.heap.size 27 zat∧Whole wr w1.heap.size 27 [.int .i64 6,.string ⟨#[]⟩,.int .i64 0,.slice none 0 0]∧Fr [g] w wr)
   case atStart=>exact⟨rfl,rfl,Whole.alloc (Rr.set1 (b':=true) R1.out) _,Whole.alloc (Whole.far V2.out (p:=⟨g,1,none⟩) hne _) _,z5z _ _ _ _ _,(F1.out.gone _).alloc _⟩
   case round=>
    obtain⟨rfl,rfl,hR,hV,hO,hF⟩:=hrel;have RR:=hid hR;have VV:=hid hV;have OO:=hid hO;have FF:=hid hF;clear c0 c1 z0 z1 a0 a1 a2 a3 b0 b1 b2 b3 hR hV hO hF;obtain⟨⟨c0,c1⟩,z0,z1⟩:=RR.out.two;obtain⟨a0,a1,a2,a3⟩:=four VV.out;obtain⟨b0,b1,b2,b3⟩:=z0h VV.out;obtain⟨o0,o1,o2,o3⟩:=four OO.out;go_wp2;refine bodyPost_ret (v:=.agg #[.int .i64 6,.string ⟨#[]⟩,.int .i64 0,.slice none 0 0]) (by simp[results,Tryz.results221,go_sem,a0,a1,a2,a3]) rfl ?_;exact .inr ⟨r,_,_,_,rfl,HN.out,Rr.set4 RR.out (fun e=>hne e.symm) _ _ _ _,z0g FF.out (Nat.le_refl _) _ _ _ _⟩
  ·go_wp2;go_loopg [5] 0 (fun x s5 wr=>x=0∧s5=.int .i64 n∧Rr g (toB r) true wr∧Whole wr w.heap.size 27 zat∧Whole wr w1.heap.size 27 [.int .i64 6,.string ⟨#[]⟩,.int .i64 0,.slice none 0 0]∧Fr [g] w wr)
   case atStart=>exact⟨rfl,rfl,Whole.alloc (Rr.set1 (b':=true) R1.out) _,Whole.alloc (Whole.far V2.out (p:=⟨g,1,none⟩) hne _) _,z5z _ _ _ _ _,(F1.out.gone _).alloc _⟩
   case round=>
    obtain⟨rfl,rfl,hR,hV,hO,hF⟩:=hrel;have RR:=hid hR;have VV:=hid hV;have OO:=hid hO;have FF:=hid hF;clear c0 c1 z0 z1 a0 a1 a2 a3 b0 b1 b2 b3 hR hV hO hF;obtain⟨⟨c0,c1⟩,z0,z1⟩:=RR.out.two;obtain⟨a0,a1,a2,a3⟩:=four VV.out;obtain⟨b0,b1,b2,b3⟩:=z0h VV.out;obtain⟨o0,o1,o2,o3⟩:=four OO.out;go_wp2;refine bodyPost_ret (v:=.agg #[.int .i64 6,.string ⟨#[]⟩,.int .i64 0,.slice none 0 0]) (by simp[results,Tryz.results221,go_sem,a0,a1,a2,a3]) rfl ?_;exact .inr ⟨r,_,_,_,rfl,HN.out,Rr.set4 RR.out (fun e=>hne e.symm) _ _ _ _,z0g FF.out (Nat.le_refl _) _ _ _ _⟩
 ·have hb:b=false:=by cases b;rfl;exact absurd (.inl rfl) hbad
  subst hb;obtain⟨N,rfl⟩:∃N:Nat,n=N:=⟨n.toNat,by omega⟩
  have hnum:zoa s.data.toList=some ((N:Int),r):=by
   obtain⟨_,h2⟩|⟨h1,_⟩:=HC.out
   ·exact h2
   ·cases h1
  have hNi:z0i (N:Int)=true:=(z4i hnum).1
  have hN:N≤999999999:=by
   unfold z0i at hNi;simp at hNi;omega
  have HD2:=hid (show za9 s.data.toList=(zmv N r []).map (fun q=>((⟨6,⟨#[]⟩,0,q.1⟩:Rep),q.2)) from by
   rw[HD.out,hnum];show zxc r N=_;unfold zxc;rw[if_neg (by omega),Int.toNat_natCast])
  have hlt0:¬(N:Int) < 0:=by omega
  clear HC HD hnum hNi hbad;generalize hDD:zmv N r []=D at *;have H0:=hid hDD;clear hDD;go_wp2;go_loopg [5] N (fun x s5 wr=>∃(j:Nat) (b:Bool) (rr:List UInt8) (acc:List Rp1) (Ao:Option Addr) (co:Nat),x=N - j∧j≤N∧s5=.int .i64 ((N - j:Nat):Int)∧Rr g (toB rr) b wr∧Whole wr w.heap.size 27 zat∧Whole wr w1.heap.size 27 [.int .i64 6,.string ⟨#[]⟩,.int .i64 0,.slice Ao acc.length co]∧wr.ownsRow (w1.heap.size+1) 27 4 (.slice Ao acc.length co) acc.length (z5b acc)∧Fr [g] w wr∧acc.length=j∧(∀x∈acc,x.sub=0)∧Hid ((b=false∧rr.length≤s.size∧D=zmv (N - j) rr acc)∨(b=true∧D=none)))
  case atStart=>
   refine⟨0,false,r,[],none,0,rfl,Nat.zero_le _,by simp,?_,?_,?_,World.ownsRow_nil _ _ _ _,?_,rfl,by simp,hid (.inl ⟨rfl,lr,H0.out.symm⟩)⟩
   ·exact Whole.alloc (Rr.set1 (b':=false) R1.out) _
   ·exact Whole.alloc (Whole.far V2.out (p:=⟨g,1,none⟩) hne _) _
   ·exact z5z _ _ _ _ _
   ·exact(F1.out.gone _).alloc _
  case round=>
   obtain⟨j,b,rr,acc,Ao,co,rfl,hj,rfl,hR,hV,hO,hW,hF,hacc,hsub,HE⟩:=hrel;have RR:=hid hR;have VV:=hid hV;have OO:=hid hO;have OW:=hid hW;have FF:=hid hF;have HSB:=hid hsub;have hzr:=OO.out.lt;have HAC:=hid hacc;clear c0 c1 z0 z1 a0 a1 a2 a3 b0 b1 b2 b3 hR hV hO hW hF hsub hacc;obtain⟨⟨c0,c1⟩,z0,z1⟩:=RR.out.two;obtain⟨a0,a1,a2,a3⟩:=four VV.out;obtain⟨b0,b1,b2,b3⟩:=z0h VV.out;obtain⟨o0,o1,o2,o3⟩:=four OO.out;obtain⟨p0,p1,p2,p3⟩:=z0h OO.out;cases b
   ·have HEE:=hid (show rr.length≤s.size∧D=zmv (N - j) rr acc from by
     obtain⟨_,h⟩|⟨h,_⟩:=HE.out
     ·exact h
     ·cases h)
    have hrl:=HEE.out.1;clear HE;by_cases hlt:j < N
    ·have q1:((N - j:Nat):Int) > 0:=by omega
     have NU:=hid (q02 w0 g (toB rr) wr (by rw[z2q];omega) RR.out (HX.out.go FF.out));have hjN:N - j=(N - (j+1))+1:=by omega
     have EDN:=hid (show D=(z7y rr).bind fun p=>zmv (N - (j+1)) p.2 (acc++[p.1]) from by rw[HEE.out.2,hjN,ziu]);have hw5:IntKind.i64.wrap (((N - j:Nat):Int) - 1)=((N - (j+1):Nat):Int):=by rw[IntKind.wrap_i64];omega
     clear HEE hjN;go_wp2_with fail;refine NU.out.mono ?_;rintro e w2 ⟨k,tx,m,bz,r2,rfl,r1,f1,hc⟩;have R2:=hid r1;have F2:=hid (FF.out.trans f1);have V3:=hid (VV.out.fr f1 (by simpa using hne));have O3:=hid (OO.out.fr f1 (by simp;omega));have WO:=hid (z0p OW.out f1 (fun x hx=>by have:=(OW.out.lt x hx).1;simp;omega));have HC2:=hid hc;have hsw:=f1.size;have hl3:=O3.out.lt;have hl4:=R2.out.lt;have hl5:=V3.out.lt;clear r1 f1 hc NU;clear c0 c1 z0 z1 a0 a1 a2 a3 b0 b1 b2 b3 o0 o1 o2 o3 p0 p1 p2 p3;obtain⟨o0,o1,o2,o3⟩:=four O3.out;obtain⟨p0,p1,p2,p3⟩:=z0h O3.out;have hlo:=HAC.out;have hO0:=z0s (World.ownsRow_lit (base:=(w2.alloc (.cells #[.int .i64 k,.string tx,.int .i64 m,.slice none 0 0] 27)).heap.size) (e:=27) (size:=4) (w2.alloc (.cells #[.int .i64 k,.string tx,.int .i64 m,.slice none 0 0] 27)) #[.int .i64 k,.string tx,.int .i64 m,.slice none 0 0] 1 (Nat.le_refl _) (by decide) rfl);rw[show(w2.alloc (.cells #[.int .i64 k,.string tx,.int .i64 m,.slice none 0 0] 27)).heap.size=w2.heap.size+1 from by simp] at hO0;have hO1:=hid hO0;clear hO0;have WA:=hid (WO.out.alloc (.cells #[.int .i64 k,.string tx,.int .i64 m,.slice none 0 0] 27));have R3:=hid (show Rr g (toB r2) bz (w2.alloc (.cells #[.int .i64 k,.string tx,.int .i64 m,.slice none 0 0] 27)) from Whole.alloc R2.out _);have V4:=hid (V3.out.alloc (.cells #[.int .i64 k,.string tx,.int .i64 m,.slice none 0 0] 27));have O4:=hid (O3.out.alloc (.cells #[.int .i64 k,.string tx,.int .i64 m,.slice none 0 0] 27));have F3:=hid (F2.out.alloc (.cells #[.int .i64 k,.string tx,.int .i64 m,.slice none 0 0] 27));clear hlo;have hal:acc.length≤999999999:=by have:=HAC.out;omega
     go_wp2_with (at_builtin;refine z0j _ rfl _ _ 25 rfl (w1.heap.size+1) 27 i0 _ 4 56 Tryz.underlying25 hi hz0 hz1 hz2 rfl (by decide) _ _ _ rfl (WA.out.alloc _) _ _ 1 _ rfl hO1.out (zpt k m tx) ?c1 ?c2 ?c3 ?_)
     case c1=>unfold maxLen;omega
     case c2=>omega
     case c3=>first|omega|(simp;omega)
     intro v' w5 hown hgrow hat5;have nb:∀x,x < w1.heap.size+1→x∉z2f (.slice Ao acc.length co):=fun x hx hm=>by have:=z1f WO.out hm;omega
     have ff:=z3p hgrow;have R5:=hid (show Rr g (toB r2) bz w5 from Whole.fr (Whole.alloc R3.out _) ff (nb g (by omega)));have V5:=hid (Whole.fr (Whole.alloc V4.out _) ff (nb _ (by omega)));have O5:=hid (Whole.fr (Whole.alloc O4.out _) ff (nb _ (by omega)));have F5:=hid ((F3.out.alloc (.cells #[.int .i64 k,.string tx,.int .i64 m,.slice none 0 0] 27)).grown hgrow (fun j hj=>.inr (by have:=(WO.out.lt j hj).1;omega)))
     have WO5:=hid (show w5.ownsRow (w1.heap.size+1) 27 4 v' (acc++[(⟨k,tx,m,0⟩:Rp1)]).length (z5b (acc++[(⟨k,tx,m,0⟩:Rp1)])) from by
      rw[zbp,List.length_append];exact hown)
     clear hown hgrow hat5 nb ff o0 o1 o2 o3 p0 p1 p2 p3;obtain⟨A5,c5,rfl,-⟩:=z05 WO5.out;obtain⟨o0,o1,o2,o3⟩:=four O5.out;obtain⟨p0,p1,p2,p3⟩:=z0h O5.out
     have SB5:=hid (show ∀x∈acc++[(⟨k,tx,m,0⟩:Rp1)],x.sub=0 from fun x hx=>by
      rcases List.mem_append.1 hx with hx|hx
      ·exact HSB.out x hx
      ·simp at hx;rw[hx])
     have HD5:=hid (show(bz=false∧r2.length≤s.size∧D=zmv (N - (j+1)) r2 (acc++[⟨k,tx,m,0⟩]))∨(bz=true∧D=none) from by
      have hc:=HC2.out;rw[z30] at hc;obtain⟨h1,h2⟩|⟨h1,h2⟩:=hc
      ·have:=(zmg h1).1;exact .inl ⟨h2,by omega,by rw[EDN.out,h1];rfl⟩
      ·exact .inr ⟨h2,by rw[EDN.out,h1];rfl⟩)
     have HL5:=hid (show(acc++[(⟨k,tx,m,0⟩:Rp1)]).length=j+1 from by rw[List.length_append,HAC.out];rfl);clear EDN HC2 HD2;generalize acc++[(⟨k,tx,m,0⟩:Rp1)]=acc5 at *;go_wp2;go_roundg (N - (j+1))
     case measure=>omega
     case rel=>exact⟨j+1,bz,r2,acc5,A5,c5,rfl,by omega,by first|rw[hw5]|go_num,Whole.far R5.out (p:=⟨w1.heap.size,3,none⟩) (by show g≠w1.heap.size;omega) _,Whole.far V5.out (p:=⟨w1.heap.size,3,none⟩) (by show w.heap.size≠w1.heap.size;omega) _,Whole.set_ O5.out 3 _,z65 WO5.out (p:=⟨w1.heap.size,3,none⟩) (Nat.lt_succ_self _) _,F5.out.setCell (p:=⟨w1.heap.size,3,none⟩) (.inr (by show w.heap.size≤w1.heap.size;omega)) _,HL5.out,SB5.out,hid HD5.out⟩
    ·have q1:¬((N - j:Nat):Int) > 0:=by omega
     have HDN:=hid (show za9 s.data.toList=some (⟨6,⟨#[]⟩,0,acc⟩,rr) from by
      rw[HD2.out,HEE.out.2,show N - j=0 by omega];rfl)
     go_wp2;refine bodyPost_ret (v:=.agg #[.int .i64 6,.string ⟨#[]⟩,.int .i64 0,.slice Ao acc.length co]) (by simp[results,Tryz.results221,go_sem,a0,a1,a2,a3]) rfl ?_;exact .inl ⟨_,_,rr,rfl,HDN.out,⟨HSB.out,_,rfl,z16 (zfh OW.out (by omega) _ _ _ _) (by omega)⟩,Rr.set4 RR.out (fun e=>hne e.symm) _ _ _ _,z0g FF.out (Nat.le_refl _) _ _ _ _⟩
   ·have HDN:=hid (show za9 s.data.toList=none from by
     obtain⟨h,_⟩|⟨_,h⟩:=HE.out
     ·cases h
     ·rw[HD2.out,h];rfl)
    clear HE;by_cases hlt:j < N
    ·have q1:((N - j:Nat):Int) > 0:=by omega
     go_wp2;refine bodyPost_ret (v:=.agg #[.int .i64 6,.string ⟨#[]⟩,.int .i64 0,.slice Ao acc.length co]) (by simp[results,Tryz.results221,go_sem,a0,a1,a2,a3]) rfl ?_;exact .inr ⟨rr,_,_,_,rfl,HDN.out,Rr.set4 RR.out (fun e=>hne e.symm) _ _ _ _,z0g FF.out (Nat.le_refl _) _ _ _ _⟩
    ·have q1:¬((N - j:Nat):Int) > 0:=by omega
     go_wp2;refine bodyPost_ret (v:=.agg #[.int .i64 6,.string ⟨#[]⟩,.int .i64 0,.slice Ao acc.length co]) (by simp[results,Tryz.results221,go_sem,a0,a1,a2,a3]) rfl ?_;exact .inr ⟨rr,_,_,_,rfl,HDN.out,Rr.set4 RR.out (fun e=>hne e.symm) _ _ _ _,z0g FF.out (Nat.le_refl _) _ _ _ _⟩
attribute [local go_sem] z1k
def RepP(g:Nat)(s:ByteArray)(w:World)(e:Ending)(w':World):Prop:=
 (∃(rp:Rep) (v:Value) (r:List UInt8),e=.returned v∧zov s.data.toList=some (rp,r)∧z19 w' w.heap.size v rp∧Rr g (toB r) false w'∧Fr [g] w w') ∨
 (∃r k t n A m c,e=.returned (.agg #[.int .i64 k,.string t,.int .i64 n,.slice A m c])∧zov s.data.toList=none∧Rr g (toB r) true w'∧Fr [g] w w')
theorem z49{g:Nat}{s:ByteArray}{w w':World}{e:Ending}(hm:zov s.data.toList=(z7y s.data.toList).map fun p=>(p.1.rep,p.2))(h:OneP g s w e w'):RepP g s w e w':=by
 obtain⟨k,t,n,b,r,rfl,hR,hF,h⟩:=h;obtain⟨h1,rfl⟩|⟨h1,rfl⟩:=h
 ·exact .inl ⟨⟨k,t,n,[]⟩,_,r,rfl,by rw[hm,h1];rfl,z19.bare _ _ _ _ _,hR,hF⟩
 ·exact .inr ⟨r,k,t,n,none,0,0,rfl,by rw[hm,h1];rfl,hR,hF⟩
theorem ztb{l:List UInt8}(h:l.length=0):zov l=(z7y l).map fun p=>(p.1.rep,p.2):=by
 cases l with
 | nil=>rfl
 | cons x l=>simp at h
theorem zmi{c:UInt8}{r:List UInt8}(h:c.toNat≠42):zov (c :: r)=(z7y (c :: r)).map fun p=>(p.1.rep,p.2):=if_neg h
theorem zi0{c:UInt8}{r:List UInt8}(h:c.toNat=42):zov (c :: r)=za9 r:=if_pos h
theorem zd5{l:List UInt8}{c:UInt8}{r:List UInt8}(e:l=c :: r)(h:c.toNat≠42):zov l=(z7y l).map fun p=>(p.1.rep,p.2):=by
 subst e;exact zmi h
theorem z19.set4{w:World}{base o:Nat}{v:Value}{r:Rep}(h:z19 w base v r)(ho:o < base)(a b c d:Value):z19 (set4 w o a b c d) base v r:=by
 obtain⟨h0,u,rfl,hw⟩:=h;exact⟨h0,_,rfl,zfh hw ho _ _ _ _⟩
theorem ztq(w0:World)(g:Nat)(s:ByteArray)(w:World)(hs:s.size < 4294967281)(h:Rr g s false w)(hx:Ctx w0 g w):
  Calls prog 169 #[.pointer (some ⟨g,0,none⟩),.bool true] w (RepP g s w):=by
 have hg:=h.lt;have hne:w.heap.size≠g:=by omega
 have hne2:g≠w.heap.size:=by omega
 have A1:=(Fr.refl [] w).alloc (.cells #[.int .i64 0,.string ⟨#[]⟩,.int .i64 0,.slice none 0 0] 27);obtain⟨⟨c0,c1⟩,z0,z1⟩:=h.two;obtain⟨q0,q0'⟩:=zet s;by_cases he:s.size=0
 ·rw[decide_eq_true he] at q0 q0';have HA:=hid (show Rr g s true ((w.setCell ⟨g,1,none⟩ (.bool true)).alloc (.cells #[.int .i64 0,.string ⟨#[]⟩,.int .i64 0,.slice none 0 0] 27)) from Whole.alloc (Rr.set1 h) _);have FA:=hid (show Fr [g] w ((w.setCell ⟨g,1,none⟩ (.bool true)).alloc (.cells #[.int .i64 0,.string ⟨#[]⟩,.int .i64 0,.slice none 0 0] 27)) from((Fr.refl [g] w).gone _).alloc _);have HN:=hid (show z7y s.data.toList=none from zlr (by simpa using he));have HM:=hid (ztb (l:=s.data.toList) (by simpa using he));clear h hx A1 he;go_enter Tryz.func169,Tryz.ntmps169;go_wp2;refine bodyPost_ret (v:=.agg #[.int .i64 0,.string ⟨#[]⟩,.int .i64 0,.slice none 0 0]) (by simp[results,Tryz.results169,go_sem]) rfl ?_;refine z49 HM.out ?_;exact⟨0,⟨#[]⟩,0,true,s.data.toList,rfl,by rw[zev];exact HA.out,FA.out,.inr ⟨HN.out,rfl⟩⟩
 rw[decide_eq_false he] at q0 q0';obtain⟨c,hc,ec⟩:=z5g s 0 (by omega);rw[List.drop_zero,Nat.zero_add] at hc;have X1:=zka s 1 (by omega);obtain⟨rr,hrr⟩:∃rr,rr=s.data.toList.drop 1:=⟨_,rfl⟩;rw[←hrr] at hc X1;have hlen:rr.length≤s.size:=by rw[hrr];simp
 clear hrr;have hsr:(s.extract 1 s.size).size < 4294967281:=by rw[X1,z2q];omega
 have HS:=hid (show Rr g (s.extract 1 s.size) false ((w.setCell ⟨g,0,none⟩ (.string (s.extract 1 s.size))).alloc (.cells #[.int .i64 0,.string ⟨#[]⟩,.int .i64 0,.slice none 0 0] 27)) from Whole.alloc (Rr.set0 h) _);have FS:Fr [g] w ((w.setCell ⟨g,0,none⟩ (.string (s.extract 1 s.size))).alloc (.cells #[.int .i64 0,.string ⟨#[]⟩,.int .i64 0,.slice none 0 0] 27)):=((Fr.refl [g] w).setCell (p:=⟨g,0,none⟩) (.inl (by simp)) _).alloc _;have XS:=hid (hx.go FS);have VS:=hid (z5z w ⟨g,0,none⟩ (.string (s.extract 1 s.size)) 27 zat);have FS:=hid FS;have HE:=hid (show Rr g (s.extract 1 s.size) true (((w.setCell ⟨g,0,none⟩ (.string (s.extract 1 s.size))).setCell ⟨g,1,none⟩ (.bool true)).alloc (.cells #[.int .i64 0,.string ⟨#[]⟩,.int .i64 0,.slice none 0 0] 27)) from Whole.alloc (Rr.set1 (Rr.set0 h)) _);have hss:0 < s.size:=by omega
 have ED:(s.extract 1 s.size).data.toList=rr:=by rw[X1,z30]
 clear h hx A1 X1;by_cases hy:z03 s 0=43
 ·have HD:=hid ((congrArg z7y hc).trans (zaf (ec.trans hy)));have e43:((z03 s 0:Int)==43)=true:=by rw[hy];rfl
  have LA:=hid (zg6 g _ _ hsr HS.out XS.out.mx);have HM:=hid (zd5 hc (by omega));clear hy hc ec;go_enter Tryz.func169,Tryz.ntmps169;go_wp2_with fail;refine LA.out.mono ?_;rintro e w1 ⟨a,r,b,rfl,r1,f1,-,-,hcu⟩;have F2:=hid (FS.out.trans f1);have R2:=hid r1;have V2:=hid (VS.out.fr f1 (by simpa using hne));have X2:=hid (XS.out.go f1);have HC:=hid hcu;clear f1 r1 LA hcu;clear c0 c1 z0 z1;obtain⟨a0,a1,a2,a3⟩:=four V2.out;obtain⟨b0,b1,b2,b3⟩:=z0h V2.out;obtain⟨⟨c0,c1⟩,z0,z1⟩:=R2.out.two;have hh:=V2.out.lt;have hgg:=R2.out.lt;go_wp2;refine bodyPost_ret (v:=.agg #[.int .i64 1,.string (toB a),.int .i64 0,.slice none 0 0]) (by simp[results,Tryz.results169,go_sem,a0,a1,a2,a3]) rfl ?_;refine z49 HM.out ?_;refine⟨1,toB a,0,b,r,rfl,Rr.set4 R2.out hne2 _ _ _ _,z0g F2.out (Nat.le_refl _) _ _ _ _,?_⟩;rw[HD.out];obtain⟨h1,h2⟩|⟨h1,h2⟩:=HC.out
  ·rw[ED] at h2;exact .inl ⟨by rw[h2];rfl,h1⟩
  ·rw[ED] at h2;exact .inr ⟨by rw[h2];rfl,h1⟩
 by_cases h45:z03 s 0=45
 ·have hy:=h45;have HD:=hid ((congrArg z7y hc).trans (z81 (ec.trans hy)));have e43:((z03 s 0:Int)==43)=false:=by rw[hy];rfl
  have e45:((z03 s 0:Int)==45)=true:=by rw[hy];rfl
  have NU:=hid (z4e w0 g _ _ hsr HS.out XS.out);have HM:=hid (zd5 hc (by omega));clear hy hc ec h45;go_enter Tryz.func169,Tryz.ntmps169;go_wp2_with fail;refine NU.out.mono ?_;rintro e w1 ⟨n,r,b,rfl,hn,r1,f1,-,hcu⟩;have F2:=hid (FS.out.trans f1);have R2:=hid r1;have V2:=hid (VS.out.fr f1 (by simpa using hne));have X2:=hid (XS.out.go f1);have HC:=hid hcu;clear f1 r1 NU hcu;clear c0 c1 z0 z1;obtain⟨a0,a1,a2,a3⟩:=four V2.out;obtain⟨b0,b1,b2,b3⟩:=z0h V2.out;obtain⟨⟨c0,c1⟩,z0,z1⟩:=R2.out.two;have hh:=V2.out.lt;have hgg:=R2.out.lt;go_wp2;refine bodyPost_ret (v:=.agg #[.int .i64 2,.string ⟨#[]⟩,.int .i64 n,.slice none 0 0]) (by simp[results,Tryz.results169,go_sem,a0,a1,a2,a3]) rfl ?_;refine z49 HM.out ?_;refine⟨2,⟨#[]⟩,n,b,r,rfl,Rr.set4 R2.out hne2 _ _ _ _,z0g F2.out (Nat.le_refl _) _ _ _ _,?_⟩;rw[HD.out];obtain⟨h1,h2⟩|⟨h1,h2⟩:=HC.out
  ·rw[ED] at h2;exact .inl ⟨by rw[h2];rfl,h1⟩
  ·rw[ED] at h2;exact .inr ⟨by rw[h2];rfl,h1⟩
 by_cases h58:z03 s 0=58
 ·have hy:=h58;have HD:=hid ((congrArg z7y hc).trans (z86 (ec.trans hy)));have e43:((z03 s 0:Int)==43)=false:=by rw[hy];rfl
  have e45:((z03 s 0:Int)==45)=false:=by rw[hy];rfl
  have e58:((z03 s 0:Int)==58)=true:=by rw[hy];rfl
  have NU:=hid (z4e w0 g _ _ hsr HS.out XS.out);have HM:=hid (zd5 hc (by omega));clear hy hc ec h58;go_enter Tryz.func169,Tryz.ntmps169;go_wp2_with fail;refine NU.out.mono ?_;rintro e w1 ⟨n,r,b,rfl,hn,r1,f1,-,hcu⟩;have F2:=hid (FS.out.trans f1);have R2:=hid r1;have V2:=hid (VS.out.fr f1 (by simpa using hne));have X2:=hid (XS.out.go f1);have HC:=hid hcu;clear f1 r1 NU hcu;clear c0 c1 z0 z1;obtain⟨a0,a1,a2,a3⟩:=four V2.out;obtain⟨b0,b1,b2,b3⟩:=z0h V2.out;obtain⟨⟨c0,c1⟩,z0,z1⟩:=R2.out.two;have hh:=V2.out.lt;have hgg:=R2.out.lt;go_wp2;refine bodyPost_ret (v:=.agg #[.int .i64 3,.string ⟨#[]⟩,.int .i64 n,.slice none 0 0]) (by simp[results,Tryz.results169,go_sem,a0,a1,a2,a3]) rfl ?_;refine z49 HM.out ?_;refine⟨3,⟨#[]⟩,n,b,r,rfl,Rr.set4 R2.out hne2 _ _ _ _,z0g F2.out (Nat.le_refl _) _ _ _ _,?_⟩;rw[HD.out];obtain⟨h1,h2⟩|⟨h1,h2⟩:=HC.out
  ·rw[ED] at h2;exact .inl ⟨by rw[h2];rfl,h1⟩
  ·rw[ED] at h2;exact .inr ⟨by rw[h2];rfl,h1⟩
 by_cases h36:z03 s 0=36
 ·have hy:=h36;have HD:=hid ((congrArg z7y hc).trans (z6z (ec.trans hy)));have e43:((z03 s 0:Int)==43)=false:=by rw[hy];rfl
  have e45:((z03 s 0:Int)==45)=false:=by rw[hy];rfl
  have e58:((z03 s 0:Int)==58)=false:=by rw[hy];rfl
  have e36:((z03 s 0:Int)==36)=true:=by rw[hy];rfl
  have NU:=hid (z4e w0 g _ _ hsr HS.out XS.out);have HM:=hid (zd5 hc (by omega));clear hy hc ec h36;go_enter Tryz.func169,Tryz.ntmps169;go_wp2_with fail;refine NU.out.mono ?_;rintro e w1 ⟨n,r,b,rfl,hn,r1,f1,hrl,hcu⟩;have F2:=hid (FS.out.trans f1);have R2:=hid r1;have V2:=hid (VS.out.fr f1 (by simpa using hne));have X2:=hid (XS.out.go f1);have HC:=hid hcu;clear f1 r1 NU hcu;by_cases h1:n=-1
  ·subst h1;clear c0 c1 z0 z1;obtain⟨a0,a1,a2,a3⟩:=four V2.out;obtain⟨b0,b1,b2,b3⟩:=z0h V2.out;obtain⟨⟨c0,c1⟩,z0,z1⟩:=R2.out.two;have hh:=V2.out.lt;have hgg:=R2.out.lt;go_wp2;refine bodyPost_ret (v:=.agg #[.int .i64 5,.string ⟨#[]⟩,.int .i64 0,.slice none 0 0]) (by simp[results,Tryz.results169,go_sem,a0,a1,a2,a3]) rfl ?_;refine z49 HM.out ?_;refine⟨5,⟨#[]⟩,0,b,r,rfl,Rr.set4 R2.out hne2 _ _ _ _,z0g F2.out (Nat.le_refl _) _ _ _ _,?_⟩;rw[HD.out];obtain⟨h1,h2⟩|⟨h1,h2⟩:=HC.out
   ·rw[ED] at h2;exact .inl ⟨by rw[h2];rfl,h1⟩
   ·rw[ED] at h2;exact .inr ⟨by rw[h2];rfl,h1⟩
  ·have qn:(n==-1)=false:=beq_eq_false_iff_ne.2 h1;have TX:=hid (zsq n b g (toB r) w1 hn (by rw[z2q];omega) R2.out);have H1:=hid h1;clear h1;clear c0 c1 z0 z1;obtain⟨a0,a1,a2,a3⟩:=four V2.out;obtain⟨b0,b1,b2,b3⟩:=z0h V2.out;obtain⟨⟨c0,c1⟩,z0,z1⟩:=R2.out.two;have hh:=V2.out.lt;have hgg:=R2.out.lt;go_wp2_with fail;refine TX.out.mono ?_;rintro e w2 ⟨ta,r3,bz,rfl,r1,f1,hcu⟩;have F3:=hid (F2.out.trans f1);have R3:=hid r1;have V3:=hid (V2.out.fr f1 (by simpa using hne));have HC3:=hid hcu;clear f1 r1 hcu TX a0 a1 a2 a3 b0 b1 b2 b3 hh hgg;clear c0 c1 z0 z1;obtain⟨a0,a1,a2,a3⟩:=four V3.out;obtain⟨b0,b1,b2,b3⟩:=z0h V3.out;obtain⟨⟨c0,c1⟩,z0,z1⟩:=R3.out.two;have hh:=V3.out.lt;have hgg:=R3.out.lt;go_wp2;refine bodyPost_ret (v:=.agg #[.int .i64 4,.string (toB ta),.int .i64 0,.slice none 0 0]) (by simp[results,Tryz.results169,go_sem,a0,a1,a2,a3]) rfl ?_;refine z49 HM.out ?_;refine⟨4,toB ta,0,bz,r3,rfl,Rr.set4 R3.out hne2 _ _ _ _,z0g F3.out (Nat.le_refl _) _ _ _ _,?_⟩;rw[HD.out];obtain⟨h1,h2⟩|⟨h1,h2⟩:=HC.out
   ·rw[ED] at h2;obtain⟨h3,h4⟩|⟨h3,h4⟩:=HC3.out
    ·rw[z30] at h3;exact .inl ⟨by rw[h2];show(if n=-1 then _ else _)=_;rw[if_neg H1.out,h3];rfl,h4.trans h1⟩
    ·rw[z30] at h3;exact .inr ⟨by rw[h2];show(if n=-1 then _ else _)=_;rw[if_neg H1.out,h3];rfl,h4⟩
   ·rw[ED] at h2;refine .inr ⟨by rw[h2];rfl,?_⟩;obtain⟨h3,h4⟩|⟨h3,h4⟩:=HC3.out
    ·exact h4.trans h1
    ·exact h4
 have HD:=hid (show z7y s.data.toList=none from by rw[hc];exact z9w (by omega) (by omega) (by omega) (by omega));by_cases h42:z03 s 0=42
 ·have hne43:=hy;clear hy;have hy:=h42;have HDL:=hid ((congrArg zov hc).trans (zi0 (ec.trans hy)));have e43:((z03 s 0:Int)==43)=false:=by rw[hy];rfl
  have e45:((z03 s 0:Int)==45)=false:=by rw[hy];rfl
  have e58:((z03 s 0:Int)==58)=false:=by rw[hy];rfl
  have e36:((z03 s 0:Int)==36)=false:=by rw[hy];rfl
  have e42:((z03 s 0:Int)==42)=true:=by rw[hy];rfl
  have NU:=hid (zu3 w0 g _ _ hsr HS.out XS.out);clear hy hc ec h42 h45 h58 h36 hne43 HD;go_enter Tryz.func169,Tryz.ntmps169;go_wp2_with fail;refine NU.out.mono ?_;rintro e w1 (⟨rp,v,r,rfl,hdl,hv,r1,f1⟩|⟨r,A,m,cc,rfl,hdl,r1,f1⟩)
  ·have F2:=hid (FS.out.trans f1);have R2:=hid r1;have V2:=hid (VS.out.fr f1 (by simpa using hne));have X2:=hid (XS.out.go f1);have HDD:=hid hdl;have HV:=hid (show z19 w1 (w.heap.size+1) v rp from by have:=hv;rwa[show((w.setCell ⟨g,0,none⟩ (.string (s.extract 1 s.size))).alloc (.cells #[.int .i64 0,.string ⟨#[]⟩,.int .i64 0,.slice none 0 0] 27)).heap.size=w.heap.size+1 from by simp[World.setCell]] at this);obtain⟨A,cc,rfl⟩:=hv.form;clear f1 r1 NU hdl hv;clear c0 c1 z0 z1;obtain⟨a0,a1,a2,a3⟩:=four V2.out;obtain⟨b0,b1,b2,b3⟩:=z0h V2.out;obtain⟨⟨c0,c1⟩,z0,z1⟩:=R2.out.two;have hh:=V2.out.lt;have hgg:=R2.out.lt;go_wp2;refine bodyPost_ret (v:=.agg #[.int .i64 rp.kind,.string rp.text,.int .i64 rp.n,.slice A rp.list.length cc]) (by simp[results,Tryz.results169,go_sem,a0,a1,a2,a3]) rfl ?_;exact .inl ⟨rp,_,r,rfl,by rw[HDL.out,←ED];exact HDD.out,(HV.out.set4 (Nat.lt_succ_self _) _ _ _ _).base (Nat.le_succ _),Rr.set4 R2.out hne2 _ _ _ _,z0g F2.out (Nat.le_refl _) _ _ _ _⟩
  ·have F2:=hid (FS.out.trans f1);have R2:=hid r1;have V2:=hid (VS.out.fr f1 (by simpa using hne));have X2:=hid (XS.out.go f1);have HDD:=hid hdl;clear f1 r1 NU hdl;clear c0 c1 z0 z1;obtain⟨a0,a1,a2,a3⟩:=four V2.out;obtain⟨b0,b1,b2,b3⟩:=z0h V2.out;obtain⟨⟨c0,c1⟩,z0,z1⟩:=R2.out.two;have hh:=V2.out.lt;have hgg:=R2.out.lt;go_wp2;refine bodyPost_ret (v:=.agg #[.int .i64 6,.string ⟨#[]⟩,.int .i64 0,.slice A m cc]) (by simp[results,Tryz.results169,go_sem,a0,a1,a2,a3]) rfl ?_;exact .inr ⟨r,6,⟨#[]⟩,0,A,m,cc,rfl,by rw[HDL.out,←ED];exact HDD.out,Rr.set4 R2.out hne2 _ _ _ _,z0g F2.out (Nat.le_refl _) _ _ _ _⟩
 ·have hne43:=hy;have e43:((z03 s 0:Int)==43)=false:=beq_eq_false_iff_ne.2 (by omega);have e45:((z03 s 0:Int)==45)=false:=beq_eq_false_iff_ne.2 (by omega);have e58:((z03 s 0:Int)==58)=false:=beq_eq_false_iff_ne.2 (by omega);have e36:((z03 s 0:Int)==36)=false:=beq_eq_false_iff_ne.2 (by omega);have e42:((z03 s 0:Int)==42)=false:=beq_eq_false_iff_ne.2 (by omega);obtain⟨⟨d0,d1⟩,y0,y1⟩:=HS.out.two;have HM:=hid (zd5 hc (by omega));clear hc ec h42 h45 h58 h36 hne43 hy;go_enter Tryz.func169,Tryz.ntmps169;go_wp2;refine bodyPost_ret (v:=.agg #[.int .i64 0,.string ⟨#[]⟩,.int .i64 0,.slice none 0 0]) (by simp[results,Tryz.results169,go_sem]) rfl ?_;refine z49 HM.out ?_;refine⟨0,⟨#[]⟩,0,true,rr,rfl,by rw[←ED,zev];exact HE.out,?_,.inr ⟨HD.out,rfl⟩⟩;exact(((Fr.refl [g] w).setCell (p:=⟨g,0,none⟩) (.inl (by simp)) _).gone _).alloc _
theorem zf5{x:Rp1}(h:z7q x):z0i x.n=true:=by
 by_cases h2:x.kind=2
 ·exact z7v (by have:=h.err h2;omega)
 ·by_cases h3:x.kind=3
  ·exact h.int h3
  ·rw[h.num h2 h3];rfl
theorem zdc{n:Int}(h:z0i n=true):-999999999≤n∧n≤999999999:=by
 unfold z0i at h;simpa using h
theorem zbh(n:Nat)(w:World)(hv:Tab w)(hn:n≤1000):Calls prog 135 #[.int .i64 n] w fun e w'=>e=.returned (.string (toB (Lib.decDigits n)))∧Fr [] w w':=by
 have:=zdg n w hv (by omega);rw[zt8] at this;exact this
theorem zah(x:Rp1)(A:Option Addr)(c:Nat)(w:World)(hv:Tab w)(hr:z7q x):
  Calls prog 168 #[.agg #[.int .i64 x.kind,.string x.text,.int .i64 x.n,.slice A x.sub c]] w fun e w'=>e=.returned (.string (toB (z2g x)))∧Fr [] w w':=by
 have F1:=hid ((Fr.refl [] w).alloc (.cells #[.int .i64 x.kind,.string x.text,.int .i64 x.n,.slice A x.sub c] 27));have V1:=hid (Whole.new w 27 [.int .i64 x.kind,.string x.text,.int .i64 x.n,.slice A x.sub c]);have hi:=zf5 hr;have hb:=zdc hi;have hil:=(zcd hi).2;obtain⟨R,hR⟩:∃R,R=toB (z2g x):=⟨_,rfl⟩;rw[←hR];obtain⟨k,t,n,m⟩:=x;have hk:k=1∨k=2∨k=3∨k=4∨k=5:=by have:1≤k∧k≤5:=hr.kind;omega
 have hw:=hr.word;have h4:=hr.bytes;simp only at F1 V1 hi hb hil hw h4 ⊢;have hz:(toB (Lib.itoa n)).size≤10:=by rw[z2q];exact hil
 have IN:=hid (fun(W:World) (hW:Fr [] w W)=>zdg n W (hv.fr hW) (by omega));have IZ:=hid (fun(W:World) (hW:Fr [] w W) (z:Nat) (hz:z≤1000)=>zbh z W (hv.fr hW) hz);have e1:(⟨#[43]⟩:ByteArray).size=1:=rfl;have e2:(⟨#[13,10]⟩:ByteArray).size=2:=rfl;have e3:(⟨#[45]⟩:ByteArray).size=1:=rfl;have e4:(⟨#[58]⟩:ByteArray).size=1:=rfl;have e5:(⟨#[36]⟩:ByteArray).size=1:=rfl;have e6:(⟨#[36,45,49]⟩:ByteArray).size=3:=rfl;clear hr hi hv;rcases hk with rfl|rfl|rfl|rfl|rfl
 ·have ht:t.size≤20:=(hw rfl).1
  have TR:(⟨#[43]⟩++t++⟨#[13,10]⟩:ByteArray)=R:=by
   rw[hR];apply ByteArray.ext;simp[toB,z2g]
  have ad1:∀W,(Op.stringOp .add ⟨#[43]⟩ t).run prog W=.ok (.string (⟨#[43]⟩++t)) W:=fun W=>run_string_add_sum W _ _ (by simp only[ByteArray.size_append,e1,e2,e3,e4,e5,e6];omega);have ad2:∀W,(Op.stringOp .add (⟨#[43]⟩++t) ⟨#[13,10]⟩).run prog W=.ok (.string (⟨#[43]⟩++t++⟨#[13,10]⟩)) W:=fun W=>run_string_add_sum W _ _ (by simp only[ByteArray.size_append,e1,e2,e3,e4,e5,e6];omega);rw[TR] at ad2;clear e1 e2 e3 e4 e5 e6;clear TR hR hw h4;go_enter Tryz.func168,Tryz.ntmps168;go_wp2_with fail;refine(IN.out _ F1.out).mono ?_;rintro e w1 ⟨rfl,f1⟩;have F2:=hid (F1.out.trans f1);have V2:=hid (V1.out.fr f1 (by simp));clear f1;obtain⟨c0,c1,c2,c3⟩:=four V2.out;go_wp2;go_ret;exact⟨rfl,F2.out⟩
 ·have TR:(⟨#[45]⟩++toB (Lib.itoa n)++⟨#[13,10]⟩:ByteArray)=R:=by
   rw[hR];apply ByteArray.ext;simp[toB,z2g]
  have IN:Hid (∀W,Fr [] w W→Calls prog 135 #[.int .i64 n] W fun e w'=>e=.returned (.string (toB (Lib.itoa n)))∧Fr [] W w'):=IN;generalize toB (Lib.itoa n)=tn at *;have ad1:∀W,(Op.stringOp .add ⟨#[45]⟩ tn).run prog W=.ok (.string (⟨#[45]⟩++tn)) W:=fun W=>run_string_add_sum W _ _ (by simp only[ByteArray.size_append,e1,e2,e3,e4,e5,e6];omega);have ad2:∀W,(Op.stringOp .add (⟨#[45]⟩++tn) ⟨#[13,10]⟩).run prog W=.ok (.string (⟨#[45]⟩++tn++⟨#[13,10]⟩)) W:=fun W=>run_string_add_sum W _ _ (by simp only[ByteArray.size_append,e1,e2,e3,e4,e5,e6];omega);rw[TR] at ad2;clear e1 e2 e3 e4 e5 e6;clear TR hR hw h4;go_enter Tryz.func168,Tryz.ntmps168;go_wp2_with fail;refine(IN.out _ F1.out).mono ?_;rintro e w1 ⟨rfl,f1⟩;have F2:=hid (F1.out.trans f1);have V2:=hid (V1.out.fr f1 (by simp));clear f1;obtain⟨c0,c1,c2,c3⟩:=four V2.out;go_wp2;go_ret;exact⟨rfl,F2.out⟩
 ·have TR:(⟨#[58]⟩++toB (Lib.itoa n)++⟨#[13,10]⟩:ByteArray)=R:=by
   rw[hR];apply ByteArray.ext;simp[toB,z2g]
  have IN:Hid (∀W,Fr [] w W→Calls prog 135 #[.int .i64 n] W fun e w'=>e=.returned (.string (toB (Lib.itoa n)))∧Fr [] W w'):=IN;generalize toB (Lib.itoa n)=tn at *;have ad1:∀W,(Op.stringOp .add ⟨#[58]⟩ tn).run prog W=.ok (.string (⟨#[58]⟩++tn)) W:=fun W=>run_string_add_sum W _ _ (by simp only[ByteArray.size_append,e1,e2,e3,e4,e5,e6];omega);have ad2:∀W,(Op.stringOp .add (⟨#[58]⟩++tn) ⟨#[13,10]⟩).run prog W=.ok (.string (⟨#[58]⟩++tn++⟨#[13,10]⟩)) W:=fun W=>run_string_add_sum W _ _ (by simp only[ByteArray.size_append,e1,e2,e3,e4,e5,e6];omega);rw[TR] at ad2;clear e1 e2 e3 e4 e5 e6;clear TR hR hw h4;go_enter Tryz.func168,Tryz.ntmps168;go_wp2_with fail;refine(IN.out _ F1.out).mono ?_;rintro e w1 ⟨rfl,f1⟩;have F2:=hid (F1.out.trans f1);have V2:=hid (V1.out.fr f1 (by simp));clear f1;obtain⟨c0,c1,c2,c3⟩:=four V2.out;go_wp2;go_ret;exact⟨rfl,F2.out⟩
 ·have ht:t.size≤60:=h4 rfl;have dz:(toB (Lib.decDigits t.size)).size≤2:=by rw[z2q];exact zcy (by omega)
  have TR:(⟨#[36]⟩++toB (Lib.decDigits t.size)++⟨#[13,10]⟩++t++⟨#[13,10]⟩:ByteArray)=R:=by
   rw[hR];apply ByteArray.ext;simp[toB,z2g]
  have IZ:=hid (fun W hW=>IZ.out W hW t.size (by omega));generalize toB (Lib.decDigits t.size)=td at *;have ad1:∀W,(Op.stringOp .add ⟨#[36]⟩ td).run prog W=.ok (.string (⟨#[36]⟩++td)) W:=fun W=>run_string_add_sum W _ _ (by simp only[ByteArray.size_append,e1,e2,e3,e4,e5,e6];omega);have ad2:∀W,(Op.stringOp .add (⟨#[36]⟩++td) ⟨#[13,10]⟩).run prog W=.ok (.string (⟨#[36]⟩++td++⟨#[13,10]⟩)) W:=fun W=>run_string_add_sum W _ _ (by simp only[ByteArray.size_append,e1,e2,e3,e4,e5,e6];omega);have ad3:∀W,(Op.stringOp .add (⟨#[36]⟩++td++⟨#[13,10]⟩) t).run prog W=.ok (.string (⟨#[36]⟩++td++⟨#[13,10]⟩++t)) W:=fun W=>run_string_add_sum W _ _ (by simp only[ByteArray.size_append,e1,e2,e3,e4,e5,e6];omega);have ad4:∀W,(Op.stringOp .add (⟨#[36]⟩++td++⟨#[13,10]⟩++t) ⟨#[13,10]⟩).run prog W=.ok (.string (⟨#[36]⟩++td++⟨#[13,10]⟩++t++⟨#[13,10]⟩)) W:=fun W=>run_string_add_sum W _ _ (by simp only[ByteArray.size_append,e1,e2,e3,e4,e5,e6];omega);rw[TR] at ad4;clear e1 e2 e3 e4 e5 e6;clear TR hR hw h4;generalize ⟨#[36]⟩++td++⟨#[13,10]⟩++t=t4 at *;generalize ⟨#[36]⟩++td++⟨#[13,10]⟩=t3 at *;generalize ⟨#[36]⟩++td=t2 at *;go_enter Tryz.func168,Tryz.ntmps168;go_wp2_with fail;refine(IN.out _ F1.out).mono ?_;rintro e w1 ⟨rfl,f1⟩;have F2:=hid (F1.out.trans f1);have V2:=hid (V1.out.fr f1 (by simp));clear f1;obtain⟨c0,c1,c2,c3⟩:=four V2.out;have IK:=hid (IZ.out w1.drew F2.out.drew);go_wp2;go_region_held3 (fun wx=>wx.cell? ⟨w.heap.size,1,none⟩=some (.string t)) (go_keep) ((go_at_call 135;refine IK.out.mono ?_;rintro e9 w2 ⟨rfl,f2⟩;have G2:=hid (z01 f2);have y1:=G2.out.cell c1 (by simp);clear f2 c1;have c1:=y1;clear y1));go_wp2;go_ret;exact⟨rfl,F2.out.trans G2.out⟩
 ·have TR:(⟨#[36,45,49,13,10]⟩:ByteArray)=R:=by rw[hR];rfl
  rw[←TR];clear e1 e2 e3 e4 e5 e6 TR hR hw h4;go_enter Tryz.func168,Tryz.ntmps168;go_wp2_with fail;refine(IN.out _ F1.out).mono ?_;rintro e w1 ⟨rfl,f1⟩;have F2:=hid (F1.out.trans f1);have V2:=hid (V1.out.fr f1 (by simp));clear f1;obtain⟨c0,c1,c2,c3⟩:=four V2.out;go_wp2;go_ret;exact⟨rfl,F2.out⟩
attribute [local go_sem] z1k
theorem zm8{n:Int}(h:z0i n=true):-9223372036854775808≤n∧n≤9223372036854775807:=by
 have:=zdc h;omega
theorem zai{k n:Int}{t:ByteArray}(hk:0≤k∧k≤9)(ht:t.size≤281474976710656)(hn:-9223372036854775808≤n∧n≤9223372036854775807):Rp1.Small ⟨k,t,n,0⟩:=
 ⟨by show -9223372036854775808≤k∧k≤9223372036854775807;omega,ht,hn,Nat.zero_le _⟩
theorem zn1{n:Int}{l a r:List UInt8}(h:z9n n l=some (a,r)):a.length≤l.length:=by
 unfold z9n at h;split at h
 ·cases h
 ·split at h
  ·cases h;rw[List.length_take];omega
  ·cases h
theorem zf3{l m:List UInt8}{x:Rp1}(hl:l.length≤281474976710656)(h:z7y l=some (x,m)):x.Small:=by
 cases l with
 | nil=>cases h
 | cons c r=>
  rw[List.length_cons] at hl;have h0:(⟨#[]⟩:ByteArray).size≤281474976710656:=by decide
  by_cases h1:c.toNat=43
  ·rw[zaf h1] at h;obtain⟨p,hp,e⟩:=Option.map_eq_some_iff.1 h;cases e;have:=zcg (a:=p.1) (b:=p.2) hp;exact zai (by decide) (by rw[z2q];omega) (by decide)
  ·by_cases h2:c.toNat=45
   ·rw[z81 h2] at h;obtain⟨p,hp,e⟩:=Option.map_eq_some_iff.1 h;cases e;exact zai (by decide) h0 (zm8 (z4i (n:=p.1) (r:=p.2) hp).1)
   ·by_cases h3:c.toNat=58
    ·rw[z86 h3] at h;obtain⟨p,hp,e⟩:=Option.map_eq_some_iff.1 h;cases e;exact zai (by decide) h0 (zm8 (z4i (n:=p.1) (r:=p.2) hp).1)
    ·by_cases h4:c.toNat=36
     ·rw[z6z h4] at h;obtain⟨p,hp,e⟩:=Option.bind_eq_some_iff.1 h;have:=(z4i (n:=p.1) (r:=p.2) hp).2;by_cases h5:p.1=-1
      ·rw[if_pos h5] at e;cases e;exact zai (by decide) h0 (by decide)
      ·rw[if_neg h5] at e;obtain⟨q,hq,e⟩:=Option.map_eq_some_iff.1 e;cases e;have:=zn1 (a:=q.1) (r:=q.2) hq;exact zai (by decide) (by rw[z2q];omega) (by decide)
     ·rw[z9w h1 h2 h3 h4] at h;cases h
theorem zfa:∀(k:Nat) {l m:List UInt8} {acc out:List Rp1},l.length≤281474976710656→(∀x∈acc,x.Small)→zmv k l acc=some (out,m)→(∀x∈out,x.Small)∧out.length=acc.length+k
 | 0,l,m,acc,out,hl,ha,h=>by
  cases h;exact⟨ha,rfl⟩
 | k+1,l,m,acc,out,hl,ha,h=>by
  rw[ziu] at h;obtain⟨p,hp,h⟩:=Option.bind_eq_some_iff.1 h;obtain⟨x,r⟩:=p;have h1:=(zmg hp).1;have h2:=zf3 hl hp
  obtain⟨h3,h4⟩:=zfa k (l:=r) (by omega) (acc:=acc++[x]) (fun y hy=>by
   rcases List.mem_append.1 hy with hy|hy
   ·exact ha y hy
   ·simp at hy;rw[hy];exact h2) h
  exact⟨h3,by rw[h4,List.length_append];simp;omega⟩
theorem znj{l m:List UInt8}{r:Rep}(hl:l.length≤281474976710656)(h:zov l=some (r,m)):r.Small∧r.list.length≤281474976710656:=by
 cases l with
 | nil=>cases h
 | cons c q=>
  by_cases h42:c.toNat=42
  ·rw[zi0 h42,zhv] at h;obtain⟨p,hp,h⟩:=Option.bind_eq_some_iff.1 h;obtain⟨n,a⟩:=p;obtain⟨hi,hla⟩:=z4i hp;have hb:=zdc hi;rw[List.length_cons] at hl;have h:zxc a n=some (r,m):=h;unfold zxc at h;by_cases hneg:n < 0
   ·rw[if_pos hneg] at h;cases h
   ·rw[if_neg hneg] at h;obtain⟨w,hw,e⟩:=Option.map_eq_some_iff.1 h;cases e;obtain⟨h3,h4⟩:=zfa n.toNat (l:=a) (by omega) (acc:=[]) (fun x hx=>by cases hx) (out:=w.1) (m:=w.2) hw;have hlen:w.1.length≤281474976710656:=by rw[h4,List.length_nil];omega
    refine⟨⟨⟨?_,?_,?_,hlen⟩,h3⟩,hlen⟩
    ·show(-9223372036854775808:Int)≤6∧(6:Int)≤9223372036854775807;decide
    ·show(⟨#[]⟩:ByteArray).size≤281474976710656;decide
    ·show(-9223372036854775808:Int)≤0∧(0:Int)≤9223372036854775807;decide
  ·rw[zmi h42] at h;obtain⟨p,hp,e⟩:=Option.map_eq_some_iff.1 h;obtain⟨x,b⟩:=p;cases e;have hs:=zf3 hl hp;exact⟨⟨⟨hs.kind,hs.text,hs.n,Nat.zero_le _⟩,fun y hy=>by cases hy⟩,Nat.zero_le _⟩
def zz8(x:Rp1):Bool:=decide (x.kind=1∨x.kind=4∨x.text.size=0)
def zz7(x:Rp1):Bool:=decide (x.kind=2∨x.kind=3∨x.n=0)
def zeh(x:Rp1):Bool:=zz8 x&&zz7 x&&decide (x.kind=6∨x.sub=0)
theorem ziz(x:Rp1)(A:Option Addr)(c:Nat)(w:World)(hs:x.sub≤281474976710656):Calls prog 117 #[.agg #[.int .i64 x.kind,.string x.text,.int .i64 x.n,.slice A x.sub c]] w fun e w'=>e=.returned (.bool (zeh x))∧Fr [] w w':=by
 have F1:=hid ((Fr.refl [] w).alloc (.cells #[.int .i64 x.kind,.string x.text,.int .i64 x.n,.slice A x.sub c] 27));obtain⟨q0,q0'⟩:=zet x.text;have E:zeh x=(zz8 x&&zz7 x&&decide (x.kind=6∨x.sub=0)):=rfl;have hT:zz8 x=decide (x.kind=1∨x.kind=4∨x.text.size=0):=rfl;have hN:zz7 x=decide (x.kind=2∨x.kind=3∨x.n=0):=rfl;obtain⟨k,t,n,m⟩:=x;simp only at *;rw[E,hT,hN];have hk:k=1∨k=4∨k=2∨k=3∨k=6∨(¬k=1∧¬k=4∧¬k=2∧¬k=3∧¬k=6):=by omega
 clear E hT hN;rcases hk with rfl|rfl|rfl|rfl|rfl|⟨h1,h4,h2,h3,h6⟩
 ·-- a text
  by_cases hn:n=0
  ·subst hn;by_cases hm:m=0
   ·subst hm;go_enter Tryz.func117,Tryz.ntmps117;go_wp2;go_ret;exact⟨by simp,F1.out⟩
   ·have qm:((m:Int)==0)=false:=beq_eq_false_iff_ne.2 (by omega);go_enter Tryz.func117,Tryz.ntmps117;go_wp2;go_ret;exact⟨by simp[hm],F1.out⟩
  ·have qn:(n==0)=false:=beq_eq_false_iff_ne.2 hn;go_enter Tryz.func117,Tryz.ntmps117;go_wp2;go_ret;exact⟨by simp[hn],F1.out⟩
 ·by_cases hn:n=0
  ·subst hn;by_cases hm:m=0
   ·subst hm;go_enter Tryz.func117,Tryz.ntmps117;go_wp2;go_ret;exact⟨by simp,F1.out⟩
   ·have qm:((m:Int)==0)=false:=beq_eq_false_iff_ne.2 (by omega);go_enter Tryz.func117,Tryz.ntmps117;go_wp2;go_ret;exact⟨by simp[hm],F1.out⟩
  ·have qn:(n==0)=false:=beq_eq_false_iff_ne.2 hn;go_enter Tryz.func117,Tryz.ntmps117;go_wp2;go_ret;exact⟨by simp[hn],F1.out⟩
 ·by_cases ht:t.size=0
  ·rw[decide_eq_true ht] at q0 q0';by_cases hm:m=0
   ·subst hm;have HT:=hid ht;clear ht;go_enter Tryz.func117,Tryz.ntmps117;go_wp2;go_ret;exact⟨by simp[HT.out],F1.out⟩
   ·have qm:((m:Int)==0)=false:=beq_eq_false_iff_ne.2 (by omega);have HT:=hid ht;clear ht;go_enter Tryz.func117,Tryz.ntmps117;go_wp2;go_ret;exact⟨by simp[hm,HT.out],F1.out⟩
  ·rw[decide_eq_false ht] at q0 q0';have HT:=hid ht;clear ht;go_enter Tryz.func117,Tryz.ntmps117;go_wp2;go_ret;exact⟨by simp[HT.out],F1.out⟩
 ·by_cases ht:t.size=0
  ·rw[decide_eq_true ht] at q0 q0';by_cases hm:m=0
   ·subst hm;have HT:=hid ht;clear ht;go_enter Tryz.func117,Tryz.ntmps117;go_wp2;go_ret;exact⟨by simp[HT.out],F1.out⟩
   ·have qm:((m:Int)==0)=false:=beq_eq_false_iff_ne.2 (by omega);have HT:=hid ht;clear ht;go_enter Tryz.func117,Tryz.ntmps117;go_wp2;go_ret;exact⟨by simp[hm,HT.out],F1.out⟩
  ·rw[decide_eq_false ht] at q0 q0';have HT:=hid ht;clear ht;go_enter Tryz.func117,Tryz.ntmps117;go_wp2;go_ret;exact⟨by simp[HT.out],F1.out⟩
 ·by_cases ht:t.size=0
  ·rw[decide_eq_true ht] at q0 q0';have HT:=hid ht;clear ht;by_cases hn:n=0
   ·subst hn;go_enter Tryz.func117,Tryz.ntmps117;go_wp2;go_ret;exact⟨by simp[HT.out],F1.out⟩
   ·have qn:(n==0)=false:=beq_eq_false_iff_ne.2 hn;go_enter Tryz.func117,Tryz.ntmps117;go_wp2;go_ret;exact⟨by simp[hn,HT.out],F1.out⟩
  ·rw[decide_eq_false ht] at q0 q0';have HT:=hid ht;clear ht;go_enter Tryz.func117,Tryz.ntmps117;go_wp2;go_ret;exact⟨by simp[HT.out],F1.out⟩
 ·have k1:(k==1)=false:=beq_eq_false_iff_ne.2 h1;have k2:(k==2)=false:=beq_eq_false_iff_ne.2 h2;have k3:(k==3)=false:=beq_eq_false_iff_ne.2 h3;have k4:(k==4)=false:=beq_eq_false_iff_ne.2 h4;have k6:(k==6)=false:=beq_eq_false_iff_ne.2 h6;by_cases ht:t.size=0
  ·rw[decide_eq_true ht] at q0 q0';have HT:=hid ht;clear ht;by_cases hn:n=0
   ·subst hn;by_cases hm:m=0
    ·subst hm;go_enter Tryz.func117,Tryz.ntmps117;go_wp2;go_ret;exact⟨by simp[HT.out],F1.out⟩
    ·have qm:((m:Int)==0)=false:=beq_eq_false_iff_ne.2 (by omega);go_enter Tryz.func117,Tryz.ntmps117;go_wp2;go_ret;exact⟨by simp[hm,h6,HT.out],F1.out⟩
   ·have qn:(n==0)=false:=beq_eq_false_iff_ne.2 hn;go_enter Tryz.func117,Tryz.ntmps117;go_wp2;go_ret;exact⟨by simp[hn,h2,h3,HT.out],F1.out⟩
  ·rw[decide_eq_false ht] at q0 q0';have HT:=hid ht;clear ht;go_enter Tryz.func117,Tryz.ntmps117;go_wp2;go_ret;exact⟨by simp[h1,h4,HT.out],F1.out⟩
end Go.Proofs.YtmalkppcahogjaaGreatDoor
