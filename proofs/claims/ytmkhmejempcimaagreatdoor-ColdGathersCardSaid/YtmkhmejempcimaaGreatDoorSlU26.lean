/- Contracts; no condition but each theorem's own. -/
import Derived.Test.YtmkhmejempcimaaGreatDoorSlU25
import Derived.Laws.IdiomStrings
set_option linter.unusedVariables false
set_option linter.unusedSimpArgs false
set_option maxHeartbeats 8000000
set_option maxRecDepth 100000
namespace Go.Proofs.YtmkhmejempcimaaGreatDoor
open Lib (hid)
open Go.Proofs.Tryz (prog)
open Go.RowKit
def za6(n:Nat):ByteArray:=match n with
 | 0=>⟨#[]⟩
 | 1=>⟨#[49]⟩
 | 2=>⟨#[49,50]⟩
 | _=>⟨#[112]⟩
def zfs(m:Option Nat):Int:=match m with
 | some m=>(m:Int)
 | none=>-1
def shpV(s:Shp):Value:=.agg #[.int .i64 (s.least:Int),.int .i64 (zfs s.most),.bool s.pairs,.string (za6 s.nums)]
theorem of_k0(t:ByteArray)(ht:t=⟨#[112,105,110,103]⟩)(w:World):Calls prog 61 #[.string t] w fun e w'=>e=.returned (.tuple #[.agg #[.int .i64 0,.int .i64 0,.bool false,.string ⟨#[]⟩],.bool true])∧Fr [] w w':=by
 subst ht
 all_goals
  go_enter Tryz.func61,Tryz.ntmps61;go_wp2;refine bodyPost_ret (v:=.tuple #[.agg #[.int .i64 0,.int .i64 0,.bool false,.string ⟨#[]⟩],.bool true]) (by simp[results,Tryz.results61,go_sem]) rfl ?_;exact⟨rfl,((((Fr.refl [] w).alloc _))) ⟩
theorem z98(t:ByteArray)(ht:t=⟨#[103,101,116]⟩∨t=⟨#[115,116,114,108,101,110]⟩∨t=⟨#[116,121,112,101]⟩∨t=⟨#[107,101,121,115]⟩∨t=⟨#[116,116,108]⟩∨t=⟨#[112,101,114,115,105,115,116]⟩∨t=⟨#[108,112,111,112]⟩∨t=⟨#[114,112,111,112]⟩∨t=⟨#[115,109,101,109,98,101,114,115]⟩∨t=⟨#[104,103,101,116,97,108,108]⟩)(w:World):Calls prog 61 #[.string t] w fun e w'=>e=.returned (.tuple #[.agg #[.int .i64 1,.int .i64 1,.bool false,.string ⟨#[]⟩],.bool true])∧Fr [] w w':=by
 rcases ht with rfl|rfl|rfl|rfl|rfl|rfl|rfl|rfl|rfl|rfl
 all_goals
  go_enter Tryz.func61,Tryz.ntmps61;go_wp2;refine bodyPost_ret (v:=.tuple #[.agg #[.int .i64 1,.int .i64 1,.bool false,.string ⟨#[]⟩],.bool true]) (by simp[results,Tryz.results61,go_sem]) rfl ?_;exact⟨rfl,((((Fr.refl [] w).alloc _))) ⟩
theorem zd5(t:ByteArray)(ht:t=⟨#[115,101,116]⟩∨t=⟨#[97,112,112,101,110,100]⟩∨t=⟨#[108,114,101,109]⟩∨t=⟨#[115,105,115,109,101,109,98,101,114]⟩∨t=⟨#[104,103,101,116]⟩∨t=⟨#[122,115,99,111,114,101]⟩∨t=⟨#[122,114,97,110,107]⟩)(w:World):Calls prog 61 #[.string t] w fun e w'=>e=.returned (.tuple #[.agg #[.int .i64 2,.int .i64 2,.bool false,.string ⟨#[]⟩],.bool true])∧Fr [] w w':=by
 rcases ht with rfl|rfl|rfl|rfl|rfl|rfl|rfl
 all_goals
  go_enter Tryz.func61,Tryz.ntmps61;go_wp2;refine bodyPost_ret (v:=.tuple #[.agg #[.int .i64 2,.int .i64 2,.bool false,.string ⟨#[]⟩],.bool true]) (by simp[results,Tryz.results61,go_sem]) rfl ?_;exact⟨rfl,((((Fr.refl [] w).alloc _))) ⟩
theorem zpg(t:ByteArray)(ht:t=⟨#[105,110,99,114,98,121]⟩∨t=⟨#[101,120,112,105,114,101]⟩)(w:World):Calls prog 61 #[.string t] w fun e w'=>e=.returned (.tuple #[.agg #[.int .i64 2,.int .i64 2,.bool false,.string ⟨#[49]⟩],.bool true])∧Fr [] w w':=by
 rcases ht with rfl|rfl
 all_goals
  go_enter Tryz.func61,Tryz.ntmps61;go_wp2;refine bodyPost_ret (v:=.tuple #[.agg #[.int .i64 2,.int .i64 2,.bool false,.string ⟨#[49]⟩],.bool true]) (by simp[results,Tryz.results61,go_sem]) rfl ?_;exact⟨rfl,((((Fr.refl [] w).alloc _))) ⟩
theorem zhr(t:ByteArray)(ht:t=⟨#[103,101,116,114,97,110,103,101]⟩∨t=⟨#[108,114,97,110,103,101]⟩∨t=⟨#[108,116,114,105,109]⟩∨t=⟨#[122,114,97,110,103,101]⟩∨t=⟨#[122,114,97,110,103,101,98,121,115,99,111,114,101]⟩)(w:World):Calls prog 61 #[.string t] w fun e w'=>e=.returned (.tuple #[.agg #[.int .i64 3,.int .i64 3,.bool false,.string ⟨#[49,50]⟩],.bool true])∧Fr [] w w':=by
 rcases ht with rfl|rfl|rfl|rfl|rfl
 all_goals
  go_enter Tryz.func61,Tryz.ntmps61;go_wp2;refine bodyPost_ret (v:=.tuple #[.agg #[.int .i64 3,.int .i64 3,.bool false,.string ⟨#[49,50]⟩],.bool true]) (by simp[results,Tryz.results61,go_sem]) rfl ?_;exact⟨rfl,((((Fr.refl [] w).alloc _))) ⟩
theorem zip(t:ByteArray)(ht:t=⟨#[100,101,108]⟩∨t=⟨#[101,120,105,115,116,115]⟩∨t=⟨#[115,105,110,116,101,114]⟩∨t=⟨#[115,117,110,105,111,110]⟩∨t=⟨#[115,100,105,102,102]⟩)(w:World):Calls prog 61 #[.string t] w fun e w'=>e=.returned (.tuple #[.agg #[.int .i64 1,.int .i64 (-1),.bool false,.string ⟨#[]⟩],.bool true])∧Fr [] w w':=by
 rcases ht with rfl|rfl|rfl|rfl|rfl
 all_goals
  go_enter Tryz.func61,Tryz.ntmps61;go_wp2;refine bodyPost_ret (v:=.tuple #[.agg #[.int .i64 1,.int .i64 (-1),.bool false,.string ⟨#[]⟩],.bool true]) (by simp[results,Tryz.results61,go_sem]) rfl ?_;exact⟨rfl,((((Fr.refl [] w).alloc _))) ⟩
theorem zgs(t:ByteArray)(ht:t=⟨#[108,112,117,115,104]⟩∨t=⟨#[114,112,117,115,104]⟩∨t=⟨#[115,97,100,100]⟩∨t=⟨#[115,114,101,109]⟩∨t=⟨#[104,100,101,108]⟩∨t=⟨#[122,114,101,109]⟩)(w:World):Calls prog 61 #[.string t] w fun e w'=>e=.returned (.tuple #[.agg #[.int .i64 2,.int .i64 (-1),.bool false,.string ⟨#[]⟩],.bool true])∧Fr [] w w':=by
 rcases ht with rfl|rfl|rfl|rfl|rfl|rfl
 all_goals
  go_enter Tryz.func61,Tryz.ntmps61;go_wp2;refine bodyPost_ret (v:=.tuple #[.agg #[.int .i64 2,.int .i64 (-1),.bool false,.string ⟨#[]⟩],.bool true]) (by simp[results,Tryz.results61,go_sem]) rfl ?_;exact⟨rfl,((((Fr.refl [] w).alloc _))) ⟩
theorem of_k7(t:ByteArray)(ht:t=⟨#[104,115,101,116]⟩)(w:World):Calls prog 61 #[.string t] w fun e w'=>e=.returned (.tuple #[.agg #[.int .i64 3,.int .i64 (-1),.bool true,.string ⟨#[]⟩],.bool true])∧Fr [] w w':=by
 subst ht
 all_goals
  go_enter Tryz.func61,Tryz.ntmps61;go_wp2;refine bodyPost_ret (v:=.tuple #[.agg #[.int .i64 3,.int .i64 (-1),.bool true,.string ⟨#[]⟩],.bool true]) (by simp[results,Tryz.results61,go_sem]) rfl ?_;exact⟨rfl,((((Fr.refl [] w).alloc _))) ⟩
theorem of_k8(t:ByteArray)(ht:t=⟨#[122,97,100,100]⟩)(w:World):Calls prog 61 #[.string t] w fun e w'=>e=.returned (.tuple #[.agg #[.int .i64 3,.int .i64 (-1),.bool true,.string ⟨#[112]⟩],.bool true])∧Fr [] w w':=by
 subst ht
 all_goals
  go_enter Tryz.func61,Tryz.ntmps61;go_wp2;refine bodyPost_ret (v:=.tuple #[.agg #[.int .i64 3,.int .i64 (-1),.bool true,.string ⟨#[112]⟩],.bool true]) (by simp[results,Tryz.results61,go_sem]) rfl ?_;exact⟨rfl,((((Fr.refl [] w).alloc _))) ⟩
theorem z47{s:ByteArray}{l:List UInt8}(h:s.data.toList≠l):(s.toList==l)=false:=by
 rw[beq_eq_false_iff_ne];intro e;apply h;rw[←e];exact(Lib.toList_data s).symm
theorem zno(s:ByteArray)(w:World)(h:∀c:Cm,s.data.toList≠c.bs):Calls prog 61 #[.string s] w fun e w'=>e=.returned (.tuple #[.agg #[.int .i64 0,.int .i64 0,.bool false,.string ⟨#[]⟩],.bool false])∧Fr [] w w':=by
 have q_ping:=z47 (show s.data.toList≠[112,105,110,103] from h .ping);have q_get:=z47 (show s.data.toList≠[103,101,116] from h .get);have q_set_:=z47 (show s.data.toList≠[115,101,116] from h .set_);have q_append_:=z47 (show s.data.toList≠[97,112,112,101,110,100] from h .append_);have q_strlen:=z47 (show s.data.toList≠[115,116,114,108,101,110] from h .strlen);have q_incrby:=z47 (show s.data.toList≠[105,110,99,114,98,121] from h .incrby);have q_getrange:=z47 (show s.data.toList≠[103,101,116,114,97,110,103,101] from h .getrange);have q_del:=z47 (show s.data.toList≠[100,101,108] from h .del);have q_exists_:=z47 (show s.data.toList≠[101,120,105,115,116,115] from h .exists_);have q_type_:=z47 (show s.data.toList≠[116,121,112,101] from h .type_);have q_keys_:=z47 (show s.data.toList≠[107,101,121,115] from h .keys_);have q_expire:=z47 (show s.data.toList≠[101,120,112,105,114,101] from h .expire);have q_ttl:=z47 (show s.data.toList≠[116,116,108] from h .ttl);have q_persist:=z47 (show s.data.toList≠[112,101,114,115,105,115,116] from h .persist);have q_lpush:=z47 (show s.data.toList≠[108,112,117,115,104] from h .lpush);have q_rpush:=z47 (show s.data.toList≠[114,112,117,115,104] from h .rpush);have q_lpop:=z47 (show s.data.toList≠[108,112,111,112] from h .lpop);have q_rpop:=z47 (show s.data.toList≠[114,112,111,112] from h .rpop);have q_lrange:=z47 (show s.data.toList≠[108,114,97,110,103,101] from h .lrange);have q_ltrim:=z47 (show s.data.toList≠[108,116,114,105,109] from h .ltrim);have q_lrem:=z47 (show s.data.toList≠[108,114,101,109] from h .lrem);have q_sadd:=z47 (show s.data.toList≠[115,97,100,100] from h .sadd);have q_srem:=z47 (show s.data.toList≠[115,114,101,109] from h .srem);have q_sismember:=z47 (show s.data.toList≠[115,105,115,109,101,109,98,101,114] from h .sismember);have q_smembers:=z47 (show s.data.toList≠[115,109,101,109,98,101,114,115] from h .smembers);have q_sinter:=z47 (show s.data.toList≠[115,105,110,116,101,114] from h .sinter);have q_sunion:=z47 (show s.data.toList≠[115,117,110,105,111,110] from h .sunion);have q_sdiff:=z47 (show s.data.toList≠[115,100,105,102,102] from h .sdiff);have q_hset:=z47 (show s.data.toList≠[104,115,101,116] from h .hset);have q_hget:=z47 (show s.data.toList≠[104,103,101,116] from h .hget);have q_hdel:=z47 (show s.data.toList≠[104,100,101,108] from h .hdel);have q_hgetall:=z47 (show s.data.toList≠[104,103,101,116,97,108,108] from h .hgetall);have q_zadd:=z47 (show s.data.toList≠[122,97,100,100] from h .zadd);have q_zrem:=z47 (show s.data.toList≠[122,114,101,109] from h .zrem);have q_zscore:=z47 (show s.data.toList≠[122,115,99,111,114,101] from h .zscore);have q_zrank:=z47 (show s.data.toList≠[122,114,97,110,107] from h .zrank);have q_zrange:=z47 (show s.data.toList≠[122,114,97,110,103,101] from h .zrange);have q_zrangebyscore:=z47 (show s.data.toList≠[122,114,97,110,103,101,98,121,115,99,111,114,101] from h .zrangebyscore);clear h;go_enter Tryz.func61,Tryz.ntmps61;go_wp2
 refine bodyPost_ret (v:=.tuple #[.agg #[.int .i64 0,.int .i64 0,.bool false,.string ⟨#[]⟩],.bool false]) (by simp[results,Tryz.results61,go_sem]) rfl ?_;exact⟨rfl,((((Fr.refl [] w).alloc _))) ⟩
theorem zo4(c:Cm)(w:World):Calls prog 61 #[.string (toB c.bs)] w fun e w'=>e=.returned (.tuple #[shpV c.shp,.bool true])∧Fr [] w w':=by
 cases c
 case ping=>exact of_k0 _ (rfl) w
 case get=>exact z98 _ (.inl rfl) w
 case set_=>exact zd5 _ (.inl rfl) w
 case append_=>exact zd5 _ (.inr (.inl rfl)) w
 case strlen=>exact z98 _ (.inr (.inl rfl)) w
 case incrby=>exact zpg _ (.inl rfl) w
 case getrange=>exact zhr _ (.inl rfl) w
 case del=>exact zip _ (.inl rfl) w
 case exists_=>exact zip _ (.inr (.inl rfl)) w
 case type_=>exact z98 _ (.inr (.inr (.inl rfl))) w
 case keys_=>exact z98 _ (.inr (.inr (.inr (.inl rfl)))) w
 case expire=>exact zpg _ (.inr (rfl)) w
 case ttl=>exact z98 _ (.inr (.inr (.inr (.inr (.inl rfl))))) w
 case persist=>exact z98 _ (.inr (.inr (.inr (.inr (.inr (.inl rfl)))))) w
 case lpush=>exact zgs _ (.inl rfl) w
 case rpush=>exact zgs _ (.inr (.inl rfl)) w
 case lpop=>exact z98 _ (.inr (.inr (.inr (.inr (.inr (.inr (.inl rfl))))))) w
 case rpop=>exact z98 _ (.inr (.inr (.inr (.inr (.inr (.inr (.inr (.inl rfl)))))))) w
 case lrange=>exact zhr _ (.inr (.inl rfl)) w
 case ltrim=>exact zhr _ (.inr (.inr (.inl rfl))) w
 case lrem=>exact zd5 _ (.inr (.inr (.inl rfl))) w
 case sadd=>exact zgs _ (.inr (.inr (.inl rfl))) w
 case srem=>exact zgs _ (.inr (.inr (.inr (.inl rfl)))) w
 case sismember=>exact zd5 _ (.inr (.inr (.inr (.inl rfl)))) w
 case smembers=>exact z98 _ (.inr (.inr (.inr (.inr (.inr (.inr (.inr (.inr (.inl rfl))))))))) w
 case sinter=>exact zip _ (.inr (.inr (.inl rfl))) w
 case sunion=>exact zip _ (.inr (.inr (.inr (.inl rfl)))) w
 case sdiff=>exact zip _ (.inr (.inr (.inr (.inr (rfl))))) w
 case hset=>exact of_k7 _ (rfl) w
 case hget=>exact zd5 _ (.inr (.inr (.inr (.inr (.inl rfl))))) w
 case hdel=>exact zgs _ (.inr (.inr (.inr (.inr (.inl rfl))))) w
 case hgetall=>exact z98 _ (.inr (.inr (.inr (.inr (.inr (.inr (.inr (.inr (.inr (rfl)))))))))) w
 case zadd=>exact of_k8 _ (rfl) w
 case zrem=>exact zgs _ (.inr (.inr (.inr (.inr (.inr (rfl)))))) w
 case zscore=>exact zd5 _ (.inr (.inr (.inr (.inr (.inr (.inl rfl)))))) w
 case zrank=>exact zd5 _ (.inr (.inr (.inr (.inr (.inr (.inr (rfl))))))) w
 case zrange=>exact zhr _ (.inr (.inr (.inr (.inl rfl)))) w
 case zrangebyscore=>exact zhr _ (.inr (.inr (.inr (.inr (rfl))))) w
def zk2(w:World)(g:Nat)(l:List UInt8):Prop:=∃cur:Array Value,w.heap[g]? = some (.cells cur 5 (cur.size,cur.size+1))∧l.length≤cur.size∧∀j (hj:j < l.length),cur[j]? = some (.int .u8 (l[j].toNat:Int))
theorem zk2.cell{w:World}{g:Nat}{l:List UInt8}(h:zk2 w g l)(j:Nat)(hj:j < l.length):w.cell? ⟨g,j,none⟩=some (.int .u8 (l[j].toNat:Int)):=by
 obtain⟨cur,h1,h2,h3⟩:=h;simp[World.cell?,h1,h3 j hj]
theorem zk2.frozen{w:World}{g:Nat}{l:List UInt8}(h:zk2 w g l)(j:Nat)(hj:j < l.length):w.frozen? ⟨g,j,none⟩=false:=by
 obtain⟨cur,h1,h2,h3⟩:=h;simp[World.frozen?,h1];omega
theorem zk2.set_{w:World}{g:Nat}{l:List UInt8}(h:zk2 w g l)(j:Nat)(hj:j < l.length)(u:UInt8):zk2 (w.setCell ⟨g,j,none⟩ (.int .u8 (u.toNat:Int))) g (l.set j u):=by
 obtain⟨cur,h1,h2,h3⟩:=h;refine⟨cur.setIfInBounds j (.int .u8 (u.toNat:Int)),?_,by simpa using h2,fun i hi=>?_⟩
 ·simp[World.setCell,Array.getElem?_modify,h1]
 ·have hi':i < l.length:=by simpa using hi
  have:=h3 i hi';by_cases hji:j=i
  ·subst hji;rw[Array.getElem?_setIfInBounds_self_of_lt (by omega)];simp
  ·rw[Array.getElem?_setIfInBounds_ne hji,this];simp[List.getElem_set_ne hji]
theorem zir(w:World)(s:ByteArray)(hs:s.size≤281474976710656):∃cap wb,(convert 9 130 (.string s)).run prog w=.ok (.slice (some ⟨w.heap.size,0,none⟩) s.size cap) wb∧Fr [] w wb∧zk2 wb w.heap.size s.data.toList:=by
 refine⟨_,_,Lib.run_convert_string_bytes w 9 130 5 s Tryz.underlying9 Tryz.underlying130 Tryz.underlying5,zfb _ _ _,_,Lib.bytesWorld_at_new _ _ _,?_,fun j hj=>?_⟩
 ·simp[Lib.bytesCells]
 ·have hj':j < s.data.size:=by simpa using hj
  have hj2:j < s.size:=hj';simp[Lib.bytesCells,Array.getElem?_append,hj',hj2]
theorem zjr(w:World)(g cap n:Nat)(l:List UInt8)(h:zk2 w g l)(hn:l.length=n):(convert 130 9 (.slice (some ⟨g,0,none⟩) n cap)).run prog w=.ok (.string (toB l)) w:=by
 subst hn
 exact run_convert_bytes_back (P:=prog) w 130 9 5 ⟨g,0,none⟩ cap l Tryz.underlying130 Tryz.underlying5 Tryz.underlying9 (fun j hj=>by
  have:=h.cell j hj
  have e2:(⟨g,0,none⟩:Addr).add j=⟨g,j,none⟩:=by
   unfold Addr.add;split
   ·rename_i h0;rw[h0]
   ·simp
  rw[e2,this])
def z4q(l:List UInt8)(k:Nat):List UInt8:=(l.take k).map z8h++l.drop k
theorem zaw(l:List UInt8)(k:Nat):(z4q l k).length=l.length:=by simp[z4q];omega
theorem zgz(l:List UInt8):z4q l 0=l:=by simp[z4q]
theorem zit(l:List UInt8):z4q l l.length=l.map z8h:=by simp[z4q]
theorem zlt(l:List UInt8)(k:Nat)(hk:k < l.length):(z4q l k)[k]? = some l[k]:=by
 unfold z4q;rw[List.getElem?_append_right (by simp;omega)];simp[Nat.min_eq_left (Nat.le_of_lt hk),hk]
theorem zgo(l:List UInt8)(k:Nat)(hk:k < l.length):z4q l (k+1)=(z4q l k).set k (z8h l[k]):=by
 unfold z4q;have e1:=List.drop_eq_getElem_cons hk;have e2:((l.take k).map z8h).length=k:=by simp;omega
 rw[List.set_append_right _ _ (by rw[e2];exact Nat.le_refl _),e2,Nat.sub_self,e1,List.set_cons_zero,List.take_add_one,List.getElem?_eq_getElem hk];simp only[Option.toList_some,List.map_append,List.map_cons,List.map_nil,List.append_assoc,List.cons_append,List.nil_append]
theorem zko{c:UInt8}(h:65≤c.toNat∧c.toNat≤90):((z8h c).toNat:Int)=c.toNat+32:=by
 unfold z8h;rw[if_pos h];have:(c+32).toNat=(c.toNat+32) % 256:=by rw[UInt8.toNat_add];rfl
 omega
theorem zm3{c:UInt8}(h:¬(65≤c.toNat∧c.toNat≤90)):z8h c=c:=if_neg h
theorem z81(s:ByteArray)(w:World)(hs:s.size≤281474976710656):
  Calls prog 62 #[.string s] w fun e w'=>e=.returned (.string (toB (znj s)))∧Fr [] w w':=by
 obtain⟨cap,wb,hconv,fb,hrow⟩:=zir w s hs;have F0:=hid fb;have R0:=hid hrow;have LL:s.data.toList.length=s.size:=by simp
 have LN:=hid LL;have E:=hid (show znj s=z4q s.data.toList s.data.toList.length from(zit _).symm);clear fb hrow;generalize s.data.toList=l at *;go_enter Tryz.func62,Tryz.ntmps62;go_wp2;clear hconv;go_loopg [10] s.size (fun y i wr=>∃k:Nat,y=s.size - k∧k≤s.size∧i=.int .i64 k∧zk2 wr w.heap.size (z4q l k)∧Fr [] w wr)
 case atStart=>exact⟨0,rfl,Nat.zero_le _,rfl,by rw[zgz];exact R0.out,F0.out⟩
 case round=>
  obtain⟨k,rfl,hk,rfl,hrow,hf⟩:=hrel;have R:=hid hrow;have F:=hid hf;clear hrow hf;by_cases hlt:k < s.size
  ·have hkl:k < l.length:=by rw[LN.out];exact hlt
   have hkl2:k < (z4q l k).length:=by rw[zaw];exact hkl
   have hc0:=R.out.cell k hkl2;have hf0:=R.out.frozen k hkl2
   have hat:(z4q l k)[k]=l[k]:=by
    have:=zlt l k hkl;rw[List.getElem?_eq_getElem hkl2] at this;exact Option.some.inj this
   rw[hat] at hc0;have ST:=hid (zgo l k hkl);have hc255:(l[k].toNat:Int) < 256:=by have:=l[k].toNat_lt;omega
   have RS:=hid (fun u=>R.out.set_ k hkl2 u);have NO:=hid (show z8h l[k]=l[k]→(z4q l k).set k (z8h l[k])=z4q l k from fun e=>by rw[e,←hat,List.set_getElem_self]);have UP:=hid (@zko l[k]);have NU:=hid (@zm3 l[k]);clear hat LL;generalize l[k]=c at *;generalize hcn:c.toNat=n at *;by_cases h1:65≤n
   ·by_cases h2:n≤90
    ·have UV:=hid (UP.out ⟨by omega,by omega⟩);go_wp2;go_roundg (s.size - (k+1))
     case measure=>omega
     case rel=>
      refine⟨k+1,rfl,by omega,by go_num,?_,F.out.setCell (p:=⟨w.heap.size,k,none⟩) (.inr (Nat.le_refl _)) _⟩;rw[ST.out];have:=RS.out (z8h c);rw[UV.out] at this;exact this
    ·have NV:=hid (NO.out (NU.out (fun h=>h2 (by omega))));go_wp2;go_roundg (s.size - (k+1))
     case measure=>omega
     case rel=>exact⟨k+1,rfl,by omega,by go_num,by rw[ST.out,NV.out];exact R.out,F.out⟩
   ·have NV:=hid (NO.out (NU.out (fun h=>h1 (by omega))));go_wp2;go_roundg (s.size - (k+1))
    case measure=>omega
    case rel=>exact⟨k+1,rfl,by omega,by go_num,by rw[ST.out,NV.out];exact R.out,F.out⟩
  ·obtain rfl:k=s.size:=by omega
   have hb:=zjr wr w.heap.size cap s.size (z4q l s.size) R.out (by rw[zaw,LN.out]);go_wp2;go_ret;exact⟨by rw[E.out,LN.out];rfl,F.out⟩
theorem z73(w:World)(o:Obj)(t:TypeId)(cs:List Value):Whole ((w.alloc o).alloc (.cells cs.toArray t)) (w.heap.size+1) t cs:=by
 have:=Whole.new (w.alloc o) t cs;rwa[show(w.alloc o).heap.size=w.heap.size+1 from by simp] at this
structure LC(w0:World)(bl:List (Nat×Nat×List Value))(es:List (Value×List Ent))(rs:List (Value×List ByteArray))(st:List (Value×Sto))(wr:World):Prop where
 f:Fr [] w0 wr
 v:Vars wr
 bl:∀p∈bl,Whole wr p.1 p.2.1 p.2.2
 es:∀p∈es,z1g wr wr.heap.size p.1 p.2
 rs:∀p∈rs,Sl wr wr.heap.size 1 p.1 p.2.length (z04 p.2)
 st:∀p∈st,z2h wr wr.heap.size p.1 p.2
section
variable {w0 wr w1:World} {bl:List (Nat×Nat×List Value)} {es:List (Value×List Ent)} {rs:List (Value×List ByteArray)} {st:List (Value×Sto)}
theorem za1{α:Type}{P:α→Prop}{a:α}{l:List α}(ha:P a)(h:∀p∈l,P p):∀p∈a :: l,P p:=fun p hp=>by
 rcases List.mem_cons.1 hp with rfl|hp
 ·exact ha
 ·exact h p hp
theorem LC.start{w:World}(hv:Vars w):LC w [] [] [] [] w:=
 ⟨Fr.refl _ _,hv,fun p hp=>by (cases hp),fun p hp=>by (cases hp),fun p hp=>by (cases hp),fun p hp=>by (cases hp)⟩
theorem LC.go(h:LC w0 bl es rs st wr)(k:Fr [] wr w1):LC w0 bl es rs st w1:=
 ⟨h.f.trans k,h.v.fr k,fun p hp=>(h.bl p hp).fr k (by simp),fun p hp=>(h.es p hp).go k,fun p hp=>((h.rs p hp).fr k (Nat.le_refl _) (by simp)).more k.size,fun p hp=>(h.st p hp).go k⟩
theorem LC.alloc(h:LC w0 bl es rs st wr)(o:Obj):LC w0 bl es rs st (wr.alloc o):=h.go ((Fr.refl [] wr).alloc o)
theorem LC.ents{v:Value}{l:List Ent}(h:LC w0 bl es rs st wr)(hv:z1g wr wr.heap.size v l):LC w0 bl ((v,l) :: es) rs st wr:=⟨h.f,h.v,h.bl,za1 hv h.es,h.rs,h.st⟩
theorem LC.row{v:Value}{l:List ByteArray}(h:LC w0 bl es rs st wr)(hv:Sl wr wr.heap.size 1 v l.length (z04 l)):LC w0 bl es ((v,l) :: rs) st wr:=⟨h.f,h.v,h.bl,h.es,za1 hv h.rs,h.st⟩
theorem LC.sto{v:Value}{s:Sto}(h:LC w0 bl es rs st wr)(hv:z2h wr wr.heap.size v s):LC w0 bl es rs ((v,s) :: st) wr:=⟨h.f,h.v,h.bl,h.es,h.rs,za1 hv h.st⟩
theorem LC.box(h:LC w0 bl es rs st wr)(cs:List Value)(t:Nat):LC w0 ((wr.heap.size,t,cs) :: bl) es rs st (wr.alloc (.cells cs.toArray t)):=
 have k:=h.alloc (.cells cs.toArray t)
 ⟨k.f,k.v,za1 (Whole.new wr t cs) k.bl,k.es,k.rs,k.st⟩
theorem LC.lit3(h:LC w0 bl es rs st wr)(a b c:ByteArray):LC w0 bl es ((.slice (some ⟨wr.heap.size,0,none⟩) 3 3,[a,b,c]) :: rs) st (wr.alloc (.cells #[.string a,.string b,.string c] 9)):=
 (h.alloc _).row (z0o (World.ownsRow_lit (base:=wr.heap.size) (e:=9) (size:=1) wr #[.string a,.string b,.string c] 3 (Nat.le_refl _) (by decide) rfl))
theorem z2g{o t:Nat}{a b:Value}(h:Whole wr o t [a,b]):wr.cell? ⟨o,0,none⟩=some a∧wr.cell? ⟨o,1,none⟩=some b:=⟨h.cell 0,h.cell 1⟩
end
def Kq(w:World)(kb:Nat)(s:Sto):Prop:=∃a b,Whole w kb 66 [a,b]∧z3f w w.heap.size a s.slots∧z2p w w.heap.size b s.segs
theorem Kp.q{w:World}{base kb:Nat}{s:Sto}(h:Kp w base kb s):Kq w kb s:=by
 obtain⟨mid,a,b,h⟩:=h;exact⟨a,b,h.k,h.sl.o.v,h.sg.o.v⟩
def KqP(base kb:Nat)(c:Int)(t:Sto)(w:World)(e:Ending)(w':World):Prop:=e=.returned (.int .i64 c)∧FrB [] base w w'∧w.heap.size≤w'.heap.size∧(c=0→Kq w' kb t)
theorem KpP.q{base kb:Nat}{c:Int}{t:Sto}{w:World}{e:Ending}{w':World}(h:KpP base kb c t w e w'):KqP base kb c t w e w':=⟨h.1,h.2.1,h.2.2.1,fun h0=>(h.2.2.2 h0).q⟩
theorem zei{s:Sto}{k:ByteArray}{e:Int}(h:z25 s k true=(none,e)):z3s s k=(noS,e):=by unfold z3s;rw[h]
theorem zaz{s:Sto}{k:ByteArray}{i:Nat}{x:Slt}{e:Int}(h:z25 s k true=(some (i,x),e)):z3s s k=(⟨s.slots.set i (zo6 s.segs x),s.segs⟩,0):=by unfold z3s;rw[h]
theorem zis(s:Sto)(base mid kb:Nat)(a b:Value)(key:ByteArray)(w:World)(ok:z2t s)(hsm:s.Small)(hb:base≤w.heap.size)(h:KpM w base mid kb a b s):
  Calls prog 26 #[.pointer (some ⟨kb,0,none⟩),.string key] w (KqP base kb (z3s s key).2 (z3s s key).1 w):=by
 have SL:=hid (zc8 s base mid kb a b key true w ok.rise (by have:=ok.le;omega) h);rcases hsl:z25 s key true with⟨_|⟨i,x⟩,e⟩
 ·rw[zei hsl];have he:=z4g hsl;have en:z94 s key true=0:=by unfold z94;rw[hsl]
  rw[hsl,en] at SL;have q:(e != 0)=true:=by simpa using he
  clear hsl en h;go_enter Tryz.func26,Tryz.ntmps26;go_wp2_with fail;refine SL.out.mono ?_;rintro e1 w1 ⟨rfl,f1⟩;go_wp2;go_ret;exact⟨rfl,f1.toB base,f1.size,fun h0=>absurd h0 he⟩
 obtain⟨hx,hxc,rfl,hxk,-,-⟩:=z4a hsl;have en:z94 s key true=i:=by unfold z94;rw[hsl]
 rw[hsl,en] at SL;rw[zaz hsl];have EW:zo6 s.segs x={ x with cold:=false,item:=z43 s.segs x,seg:=0,rcd:=0 }:=rfl;rw[EW];clear EW;generalize hy:z43 s.segs x=y;have HY:=hid hy;have hil:=(List.getElem?_eq_some_iff.1 hx).1;have hxm:=List.mem_of_getElem? hx;have hs16:=ok.le;have OKX:=hid (ok.slot x hxm);have SMX:=hid (hsm.slots x hxm);have SMS:=hid hsm.segs;have hsle:=hsm.sle;have HX:=hid hx;have K:=hid h;obtain⟨sg,sc,rfl⟩:=z50 h.sl.choose_spec.2 (show 0 < s.slots.length by omega);obtain⟨RA,rc,rfl⟩:=h.sg.form;clear hsl en h hsm ok hxm hxk hy;go_enter Tryz.func26,Tryz.ntmps26;go_wp2_with fail;refine SL.out.mono ?_;rintro e1 w1 ⟨rfl,f1⟩;have K1:=hid (K.out.go f1);have F1:=hid f1;obtain⟨rs,hrs,hro⟩:=K1.out.sl;obtain⟨cs,hcs,hcI⟩:=hrs.at_ i x hx;obtain⟨⟨X1,x1,X2,x2,X3,x3,rfl,t1,t2,t3⟩,hcb⟩:=hcI;obtain⟨pa,pf,pb,pc,pd⟩:=z4n hro;have a10:=z8u hrs;have cellx:∀j v,j < 10→(z1f x X1 x1 X2 x2 X3 x3)[j]? = some v→w1.cell? ⟨sg,i * 10+j,none⟩=some v:=fun j v hj hv=>pa _ v (by rw[z1w 10 rs i j _ a10 hcs hj];exact hv);have r0:=cellx 0 _ (by decide) rfl;have r1:=cellx 1 _ (by decide) rfl;have r2:=cellx 2 _ (by decide) rfl;have r3:=cellx 3 _ (by decide) rfl;have r4:=cellx 4 _ (by decide) rfl;have r5:=cellx 5 _ (by decide) rfl;have r6:=cellx 6 _ (by decide) rfl;have r7:=cellx 7 _ (by decide) rfl;have r8:=cellx 8 _ (by decide) rfl;have r9:=cellx 9 _ (by decide) rfl;rw[hxc] at r1;rw[Nat.add_zero] at r0;have LI:=hid (zf2 s.segs kb RA rc x X1 X2 X3 x1 x2 x3 w1 w1.heap.size SMX.out SMS.out hsle (fun hc=>(OKX.out.cold hc).2) (Nat.le_refl _) (K1.out.k.cell 1) K1.out.sg.o.v (z24.c ⟨X1,x1,X2,x2,X3,x3,rfl,t1,t2,t3⟩));rw[hxc] at LI;rw[HY.out] at LI;obtain⟨g0,g1⟩:=two K1.out.k;have jx2:(0:Int)≤(i:Int):=by omega
 have jx3:(i:Int) < (s.slots.length:Int):=by omega
 unfold maxLen at pd;clear hx hrs hro hcs t1 t2 t3 hcb pa pf cellx a10 f1;go_wp2_with fail;refine LI.out.mono ?_;rintro e2 w2 ⟨u,rfl,-,hu,f2⟩;have hu:=hu rfl;obtain⟨P1,p1,P2,p2,P3,p3,rfl⟩:=hu.form;have HU:=hid hu;have K2:=hid (K1.out.go f2);have F2:=hid (F1.out.trans f2);have hz2:=f2.size;have hz1:=F1.out.size;have S2:=hid (K2.out.sl.more K2.out.mz);obtain⟨rs6,hrs6,hro6⟩:=K2.out.sl;obtain⟨cs6,hcs6,⟨⟨Y1,y1,Y2,y2,Y3,y3,rfl,-⟩,-⟩⟩:=hrs6.at_ i x HX.out;obtain⟨pa6,pf6,-⟩:=z4n hro6;have a106:=z8u hrs6;have cell6:∀j v,j < 10→(z1f x Y1 y1 Y2 y2 Y3 y3)[j]? = some v→w2.cell? ⟨sg,i * 10+j,none⟩=some v:=fun j v hj hv=>pa6 _ v (by rw[z1w 10 rs6 i j _ a106 hcs6 hj];exact hv);clear g0 g1 r0 r1 r2 r3 r4 r5 r6 r7 r8 r9 hu f2 LI;have k1:=cell6 1 _ (by decide) rfl;have k2:=cell6 2 _ (by decide) rfl;have k3:=cell6 3 _ (by decide) rfl;have k4:=cell6 4 _ (by decide) rfl;have k5:=cell6 5 _ (by decide) rfl;have k6:=cell6 6 _ (by decide) rfl;have k7:=cell6 7 _ (by decide) rfl;have k8:=cell6 8 _ (by decide) rfl;have z1:=pf6 (i * 10+1);have z2:=pf6 (i * 10+2);have z3:=pf6 (i * 10+3);have z4:=pf6 (i * 10+4);have z5:=pf6 (i * 10+5);have z6:=pf6 (i * 10+6);have z7:=pf6 (i * 10+7);have z8:=pf6 (i * 10+8);have hks:kb≠sg:=fun e=>z0g hro6 K2.out.k (by decide) (by rw[e];rfl);clear cell6 pf6 pa6 hrs6 hcs6 a106;have HRO6:=hid hro6;clear hro6;go_wp2;go_ret;show KqP base kb 0 _ w _ (z6x w2 sg (i * 10) [(2,.int .i64 y.kind),(3,.string y.text),(4,.slice P1 y.list.length p1),(5,.slice P2 y.pairs.length p2),(6,.slice P3 y.scores.length p3),(1,.bool false),(7,.int .i64 0),(8,.int .i64 0)])
 have hSP:=z14.put (y:={ x with cold:=false,item:=y,seg:=0,rcd:=0 }) S2.out HX.out [(2,.int .i64 y.kind),(3,.string y.text),(4,.slice P1 y.list.length p1),(5,.slice P2 y.pairs.length p2),(6,.slice P3 y.scores.length p3),(1,.bool false),(7,.int .i64 0),(8,.int .i64 0)] (fun p hp=>by
  simp at hp;rcases hp with rfl|rfl|rfl|rfl|rfl|rfl|rfl|rfl <;> simp) (fun w' cs hf hI=>by
  obtain⟨⟨B1,d1,B2,d2,B3,d3,rfl,-⟩,hb⟩:=hI;obtain⟨v1,v2,v3,hv,o1,o2,o3⟩:=HU.out;cases hv;have hb1:base≤w1.heap.size:=by omega
  have keep:∀ {e size n:Nat} {v:Value} {xs:List Value},w2.ownsRow w1.heap.size e size v n xs→w'.ownsRow base e size v n xs:=fun ho=>z09 (z05 ho hf (fun k hk hm=>by
   have hm:k=sg:=by simpa using hm
   rw[hm] at hk;have h1:=(ho.lt _ hk).1;have h3:=(K1.out.sl.choose_spec.2.lt sg rfl).2;omega)) hb1
  refine⟨⟨_,_,_,_,_,_,rfl,keep o1,keep o2,keep o3⟩,fun u hu k hk=>?_⟩;simp only[z7i,z1f,List.set_cons_zero,List.set_cons_succ,List.mem_cons,List.not_mem_nil,or_false] at hu;rcases hu with rfl|rfl|rfl|rfl|rfl|rfl|rfl|rfl|rfl|rfl
  ·cases hk
  ·cases hk
  ·cases hk
  ·cases hk
  ·exact z4i o1 hk
  ·exact z4i o2 hk
  ·exact z4i o3 hk
  ·cases hk
  ·cases hk
  ·cases hk)
 have fr7:=z48 (g:=sg) (o:=i * 10) [(2,.int .i64 y.kind),(3,.string y.text),(4,.slice P1 y.list.length p1),(5,.slice P2 y.pairs.length p2),(6,.slice P3 y.scores.length p3),(1,.bool false),(7,.int .i64 0),(8,.int .i64 0)] w2;have hG:=K2.out.sg.row HRO6.out ⟨by decide,by decide⟩ fr7;rw[List.length_set] at hSP;have pb:base≤sg:=(HRO6.out.lt sg rfl).1;exact⟨rfl,(F2.out.toB base).trans ((fr7.toB base).more (fun k hk=>.inr (by simp at hk;subst hk;exact pb))),Nat.le_trans hz1 (Nat.le_trans hz2 fr7.size),fun _=>⟨_,_,K2.out.k.fr fr7 (by simpa using hks),hSP.o.v,hG.o.v⟩⟩
theorem zea{x:Itm}(h:z0m x=true):x=z2l 0:=by
 rw[zby] at h;simp at h;obtain⟨h1,h2,h3⟩:=h;unfold many at h3;obtain⟨k,t,a,b,c⟩:=x;simp at h1 h2 h3;obtain⟨⟨rfl,rfl⟩,rfl⟩:=h3;subst h1;unfold z2l;congr
theorem znw:∀n,n < 3→∀i:Nat,i < 11→(⟨0,none,false,n⟩:Shp).num i=decide ((0:Int)≤Lib.indexByte (za6 n).data.toList ((48+(i:Int)).toNat.toUInt8)):=by decide
theorem zn0{n:Nat}(h:3≤n):za6 n=⟨#[112]⟩:=by
 match n,h with
 | n+3,_=>rfl
theorem num_p{l:Nat}{m:Option Nat}{p:Bool}{n:Nat}(h:3≤n)(i:Nat):(⟨l,m,p,n⟩:Shp).num i=decide (i % 2=1):=by
 match n,h with
 | n+3,_=>rfl
theorem zhd(sh:Shp)(i:Nat)(hi:i≤10)(w:World):Calls prog 64 #[shpV sh,.int .i64 i] w fun e w'=>e=.returned (.bool (sh.num i))∧Fr [] w w':=by
 obtain⟨least,most,pairs,nums⟩:=sh;show Calls prog 64 #[.agg #[.int .i64 (least:Int),.int .i64 (zfs most),.bool pairs,.string (za6 nums)],.int .i64 i] w _;generalize zfs most=M;generalize (least:Int)=L;by_cases hp:3≤nums
 ·rw[zn0 hp,num_p hp];have F0:=hid ((Fr.refl [] w).alloc (.cells #[.int .i64 L,.int .i64 M,.bool pairs,.string ⟨#[112]⟩] 112));clear hp;go_enter Tryz.func64,Tryz.ntmps64;go_wp2;go_ret;refine⟨?_,F0.out⟩;clear F0;have h11:i=0∨i=1∨i=2∨i=3∨i=4∨i=5∨i=6∨i=7∨i=8∨i=9∨i=10:=by omega
  rcases h11 with rfl|rfl|rfl|rfl|rfl|rfl|rfl|rfl|rfl|rfl|rfl <;> rfl
 ·have hn:(⟨least,most,pairs,nums⟩:Shp).num i=(⟨0,none,false,nums⟩:Shp).num i:=rfl;have hx:=znw nums (by omega) i (by omega);rw[hn]
  have hne:(za6 nums).data.toList≠[112]:=by
   have:nums=0∨nums=1∨nums=2:=by omega
   rcases this with rfl|rfl|rfl <;> decide
  have hpn:=z47 hne;have F0:=hid ((Fr.refl [] w).alloc (.cells #[.int .i64 L,.int .i64 M,.bool pairs,.string (za6 nums)] 112));have IB:=hid (fun W=>Tryz.strings_IndexByte (za6 nums) (48+(i:Int)) W);rw[hx];clear hx hn hne hp;generalize za6 nums=nb at *;have hv:(48+(i:Int)) < 256:=by omega
  generalize Lib.indexByte nb.data.toList ((48+(i:Int)).toNat.toUInt8)=res at *;go_enter Tryz.func64,Tryz.ntmps64;go_wp2_with fail;refine(IB.out _).mono ?_;rintro e1 w1 ⟨rfl,rfl⟩;go_wp2;go_ret;exact⟨rfl,F0.out⟩
def zmg(k:Int)(t:ByteArray)(n:Int)(w:World)(e:Ending)(w':World):Prop:=e=.returned (.agg #[.int .i64 k,.string t,.int .i64 n,.slice none 0 0])∧Fr [] w w'
theorem zaf{a b:World}{o:Obj}(h:Fr [] (a.alloc o) b):Fr [] a b:=((Fr.refl [] a).alloc o).trans h
def orV(v:Value)(c:Int)(b:Bool):Value:=if c=0 then v else if c=5∧b=true then .agg #[.int .i64 5,.string ⟨#[]⟩,.int .i64 0,.slice none 0 0] else .agg #[.int .i64 2,.string ⟨#[]⟩,.int .i64 c,.slice none 0 0]
theorem zg4(n:Int)(w:World):Calls prog 132 #[.int .i64 n] w (zmg 3 ⟨#[]⟩ n w):=by
 obtain⟨y0,y1,y2,y3⟩:=four (show Whole (w.alloc (.cells #[.int .i64 3,.string ⟨#[]⟩,.int .i64 n,.slice none 0 0] 54)) w.heap.size 54 [.int .i64 3,.string ⟨#[]⟩,.int .i64 n,.slice none 0 0] from Whole.new w _ _);go_enter Tryz.func132,Tryz.ntmps132;go_wp2;refine bodyPost_ret (v:=.agg #[.int .i64 3,.string ⟨#[]⟩,.int .i64 n,.slice none 0 0]) (by simp[results,Tryz.results132,go_sem,y0,y1,y2,y3]) rfl ⟨rfl,(Fr.refl [] w).alloc _⟩
theorem zh2(n:Int)(w:World):Calls prog 66 #[.int .i64 n] w (zmg 2 ⟨#[]⟩ n w):=by
 obtain⟨y0,y1,y2,y3⟩:=four (show Whole (w.alloc (.cells #[.int .i64 2,.string ⟨#[]⟩,.int .i64 n,.slice none 0 0] 54)) w.heap.size 54 [.int .i64 2,.string ⟨#[]⟩,.int .i64 n,.slice none 0 0] from Whole.new w _ _);go_enter Tryz.func66,Tryz.ntmps66;go_wp2;refine bodyPost_ret (v:=.agg #[.int .i64 2,.string ⟨#[]⟩,.int .i64 n,.slice none 0 0]) (by simp[results,Tryz.results66,go_sem,y0,y1,y2,y3]) rfl ⟨rfl,(Fr.refl [] w).alloc _⟩
theorem zoz(r:Rep)(v:Value)(c:Int)(b:Bool)(base:Nat)(w:World)(h:z4x w base v r):Calls prog 126 #[v,.int .i64 c,.bool b] w fun e w'=>e=.returned (orV v c b)∧Fr [] w w':=by
 obtain⟨A,k,rfl⟩:=h.form;have E:=hid (show orV (.agg #[.int .i64 r.kind,.string r.text,.int .i64 r.n,.slice A r.list.length k]) c b=if c=0 then (.agg #[.int .i64 r.kind,.string r.text,.int .i64 r.n,.slice A r.list.length k]) else if c=5∧b=true then .agg #[.int .i64 5,.string ⟨#[]⟩,.int .i64 0,.slice none 0 0] else .agg #[.int .i64 2,.string ⟨#[]⟩,.int .i64 c,.slice none 0 0] from rfl);have FA:=hid (fun o=>(((Fr.refl [] w).alloc (.cells #[.int .i64 r.kind,.string r.text,.int .i64 r.n,.slice A r.list.length k] 54)).alloc o));clear h;by_cases h0:c=0
 ·subst h0;rw[E.out,if_pos rfl];obtain⟨y0,y1,y2,y3⟩:=four (z73 w (.cells #[.int .i64 r.kind,.string r.text,.int .i64 r.n,.slice A r.list.length k] 54) 54 [.int .i64 r.kind,.string r.text,.int .i64 r.n,.slice A r.list.length k]);go_enter Tryz.func126,Tryz.ntmps126;go_wp2;refine bodyPost_ret (v:=.agg #[.int .i64 r.kind,.string r.text,.int .i64 r.n,.slice A r.list.length k]) (by simp[results,Tryz.results126,go_sem,y0,y1,y2,y3]) rfl ?_;exact⟨rfl,FA.out _⟩
 ·have q0:(c==0)=false:=by simpa using h0
  by_cases h5:c=5∧b=true
  ·obtain⟨rfl,rfl⟩:=h5;rw[E.out,if_neg (by decide),if_pos ⟨rfl,rfl⟩];clear h0 q0;obtain⟨y0,y1,y2,y3⟩:=four (z73 w (.cells #[.int .i64 r.kind,.string r.text,.int .i64 r.n,.slice A r.list.length k] 54) 54 [.int .i64 5,.string ⟨#[]⟩,.int .i64 0,.slice none 0 0]);go_enter Tryz.func126,Tryz.ntmps126;go_wp2;refine bodyPost_ret (v:=.agg #[.int .i64 5,.string ⟨#[]⟩,.int .i64 0,.slice none 0 0]) (by simp[results,Tryz.results126,go_sem,y0,y1,y2,y3]) rfl ?_;exact⟨rfl,FA.out _⟩
  ·rw[E.out,if_neg h0,if_neg h5];have V0:=hid (z73 w (.cells #[.int .i64 r.kind,.string r.text,.int .i64 r.n,.slice A r.list.length k] 54) 54 [.int .i64 0,.string ⟨#[]⟩,.int .i64 0,.slice none 0 0]);have F0:=hid (FA.out (.cells #[.int .i64 0,.string ⟨#[]⟩,.int .i64 0,.slice none 0 0] 54));have FL:=hid (fun W=>zh2 c W)
   have q5:((c==5)&&b)=false:=by
    rcases b with _|_
    ·simp
    ·simp only[Bool.and_true];have:¬c=5:=fun h=>h5 ⟨h,rfl⟩;simpa using this
   clear h5 h0 E;have HQ:=hid q5;clear q5;rcases hb:(c==5) with _|_
   ·skip;go_enter Tryz.func126,Tryz.ntmps126;go_wp2_with fail;refine(FL.out _).mono ?_;rintro e1 w1 ⟨rfl,f1⟩;have F1:=hid (F0.out.trans f1);have V1:=hid (V0.out.f0 f1);clear f1;obtain⟨a0,a1,a2,a3⟩:=four V1.out;obtain⟨b0,b1,b2,b3⟩:=z5s V1.out;go_wp2;refine bodyPost_ret (v:=.agg #[.int .i64 2,.string ⟨#[]⟩,.int .i64 c,.slice none 0 0]) (by simp[results,Tryz.results126,go_sem,a0,a1,a2,a3]) rfl ?_;exact⟨rfl,z3p F1.out (by simp) _ _ _ _⟩
   ·obtain rfl:b=false:=by
     have:=HQ.out;rw[hb] at this;simpa using this
    go_enter Tryz.func126,Tryz.ntmps126;go_wp2_with fail;refine(FL.out _).mono ?_;rintro e1 w1 ⟨rfl,f1⟩;have F1:=hid (F0.out.trans f1);have V1:=hid (V0.out.f0 f1);clear f1;obtain⟨a0,a1,a2,a3⟩:=four V1.out;obtain⟨b0,b1,b2,b3⟩:=z5s V1.out;go_wp2;refine bodyPost_ret (v:=.agg #[.int .i64 2,.string ⟨#[]⟩,.int .i64 c,.slice none 0 0]) (by simp[results,Tryz.results126,go_sem,a0,a1,a2,a3]) rfl ?_;exact⟨rfl,z3p F1.out (by simp) _ _ _ _⟩
end Go.Proofs.YtmkhmejempcimaaGreatDoor
