/- Contracts; no condition but each theorem's own. -/
import Derived.Test.YtmalkppcahogjaaGreatDoorSlR4
set_option linter.unusedVariables false
set_option linter.unusedSimpArgs false
set_option maxHeartbeats 8000000
set_option maxRecDepth 100000
namespace Go.Proofs.YtmalkppcahogjaaGreatDoor
open Lib (hid)
open Go.Proofs.Tryz (prog)
open Go.RowKit
structure RelL{α:Type}(P:List Value→α→Prop)(rs:List (List Value))(l:List α):Prop where
 len:rs.length=l.length
 at_:∀(i:Nat) (x:α),l[i]? = some x→∃cs:List Value,rs[i]? = some cs∧P cs x
theorem RelL.mem{α:Type}{P:List Value→α→Prop}{rs:List (List Value)}{l:List α}(h:RelL P rs l){c:List Value}(hc:c∈rs):∃x,x∈l∧P c x:=by
 obtain⟨i,hi⟩:=List.getElem?_of_mem hc;have hlt:=(List.getElem?_eq_some_iff.1 hi).1;obtain⟨d,h1,h2⟩:=h.at_ i _ (List.getElem?_eq_getElem (show i < l.length by rw[←h.len];exact hlt));rw[hi] at h1;cases h1;exact⟨_,List.getElem_mem _,h2⟩
def rp4(x:Rp1)(A:Option Addr)(c:Nat):List Value:=[.int .i64 x.kind,.string x.text,.int .i64 x.n,.slice A x.sub c]
def RpC(cs:List Value)(x:Rp1):Prop:=∃A c,cs=rp4 x A c
def zam(w:World)(B:Nat)(v:Value)(r:Rep):Prop:=
 ∃A c,∃rs:List (List Value),v=.agg #[.int .i64 r.kind,.string r.text,.int .i64 r.n,.slice A r.list.length c]∧RelL RpC rs r.list∧Sl w B 4 (.slice A r.list.length c) r.list.length rs.flatten
structure Rp1.Small(x:Rp1):Prop where
 kind:-9223372036854775808≤x.kind∧x.kind≤9223372036854775807
 text:x.text.size≤281474976710656
 n:-9223372036854775808≤x.n∧x.n≤9223372036854775807
 sub:x.sub≤281474976710656
structure Rep.Small(r:Rep):Prop where
 one:r.one.Small
 list:∀x∈r.list,x.Small
theorem zam.fr{w w':World}{B:Nat}{S:List Nat}{v:Value}{r:Rep}(h:zam w B v r)(hf:Fr S w w')(hB:B≤w.heap.size)(hS:∀k,k∈S→B≤k):zam w' B v r:=by
 obtain⟨A,c,rs,e,hr,hs⟩:=h;exact⟨A,c,rs,e,hr,hs.fr hf hB hS⟩
theorem zam.more{w:World}{B B':Nat}{v:Value}{r:Rep}(h:zam w B v r)(hB:B≤B'):zam w B' v r:=by
 obtain⟨A,c,rs,e,hr,hs⟩:=h;exact⟨A,c,rs,e,hr,hs.more hB⟩
theorem zam.go{w w':World}{v:Value}{r:Rep}(h:zam w w.heap.size v r)(hf:Fr [] w w'):zam w' w'.heap.size v r:=(h.fr hf (Nat.le_refl _) (by simp)).more hf.size
theorem zam.form{w:World}{B:Nat}{v:Value}{r:Rep}(h:zam w B v r):∃A c,v=.agg #[.int .i64 r.kind,.string r.text,.int .i64 r.n,.slice A r.list.length c]:=by
 obtain⟨A,c,rs,e,_⟩:=h;exact⟨A,c,e⟩
structure At4(w:World)(b o:Nat)(x:Rp1)(A:Option Addr)(c:Nat):Prop where
 k0:w.cell? ⟨b,o,none⟩=some (.int .i64 x.kind)
 k1:w.cell? ⟨b,o+1,none⟩=some (.string x.text)
 k2:w.cell? ⟨b,o+2,none⟩=some (.int .i64 x.n)
 k3:w.cell? ⟨b,o+3,none⟩=some (.slice A x.sub c)
theorem At4.fr{w w':World}{b o:Nat}{x:Rp1}{A:Option Addr}{c:Nat}{S:List Nat}(h:At4 w b o x A c)(hf:Fr S w w')(hn:b∉S):At4 w' b o x A c:=
 ⟨hf.cell h.k0 hn,hf.cell h.k1 hn,hf.cell h.k2 hn,hf.cell h.k3 hn⟩
theorem At4.f0{w w':World}{b o:Nat}{x:Rp1}{A:Option Addr}{c:Nat}{S:List Nat}(h:At4 w b o x A c)(hf:Fr S w w')(hn:b∉S:=by simp):At4 w' b o x A c:=h.fr hf hn
theorem zam.at_{w:World}{B:Nat}{A:Option Addr}{c:Nat}{r:Rep}(h:zam w B (.agg #[.int .i64 r.kind,.string r.text,.int .i64 r.n,.slice A r.list.length c]) r)(hn:0 < r.list.length):
  ∃b off,A=some ⟨b,off,none⟩∧b < B∧r.list.length≤c∧c≤maxLen∧∀(i:Nat) (x:Rp1),r.list[i]? = some x→∃A1 c1,At4 w b (off+i * 4) x A1 c1:=by
 obtain⟨A',c',rs,hv,hr,hs⟩:=h;simp at hv;obtain⟨rfl,rfl⟩:=hv;obtain⟨b,off,rfl,hb,hc,hm,hcell⟩:=hs.at_ hn;refine⟨b,off,rfl,hb,hc,hm,fun i x hx=>?_⟩;obtain⟨cs,hcs,A1,c1,rfl⟩:=hr.at_ i x hx
 have all4:∀c∈rs,c.length=4:=fun c hc=>by
  obtain⟨y,_,A2,c2,rfl⟩:=hr.mem hc;rfl
 have g:∀j u,j < 4→(rp4 x A1 c1)[j]? = some u→w.cell? ⟨b,off+(i * 4+j),none⟩=some u:=fun j u hj hu=>
  hcell _ _ (by rw[z4m 4 rs i j _ all4 hcs hj];exact hu)
 exact⟨A1,c1,g 0 _ (by decide) rfl,by rw[Nat.add_assoc];exact g 1 _ (by decide) rfl,by rw[Nat.add_assoc];exact g 2 _ (by decide) rfl,by rw[Nat.add_assoc];exact g 3 _ (by decide) rfl⟩
def z5b(l:List Rp1):List Value:=l.flatMap fun x=>rp4 x none 0
def z19(w:World)(base:Nat)(v:Value)(r:Rep):Prop:=(∀x∈r.list,x.sub=0)∧∃u,v=.agg #[.int .i64 r.kind,.string r.text,.int .i64 r.n,u]∧w.ownsRow base 27 4 u r.list.length (z5b r.list)
theorem z19.v{w:World}{base:Nat}{v:Value}{r:Rep}(h:z19 w base v r):zam w w.heap.size v r:=by
 obtain⟨h0,u,rfl,ho⟩:=h;obtain⟨A,c,rfl,-⟩:=z05 ho;refine⟨A,c,r.list.map fun x=>rp4 x none 0,rfl,⟨by simp,fun i x hx=>⟨rp4 x none 0,by rw[List.getElem?_map,hx];rfl,none,0,rfl⟩⟩,?_⟩;have:=z0s ho;unfold z5b at this;rw[List.flatMap_def] at this;exact this
theorem z19.form{w:World}{base:Nat}{v:Value}{r:Rep}(h:z19 w base v r):∃A c,v=.agg #[.int .i64 r.kind,.string r.text,.int .i64 r.n,.slice A r.list.length c]:=h.v.form
theorem z19.fr{w w':World}{base:Nat}{v:Value}{r:Rep}(h:z19 w base v r)(hf:Fr [] w w'):z19 w' base v r:=by
 obtain⟨h0,u,rfl,ho⟩:=h;exact⟨h0,u,rfl,z0p ho hf (by simp)⟩
theorem z19.base{w:World}{base base':Nat}{v:Value}{r:Rep}(h:z19 w base v r)(hb:base'≤base):z19 w base' v r:=by
 obtain⟨h0,u,rfl,ho⟩:=h;exact⟨h0,u,rfl,z16 ho hb⟩
theorem z19.bare(w:World)(base:Nat)(k n:Int)(t:ByteArray):z19 w base (.agg #[.int .i64 k,.string t,.int .i64 n,.slice none 0 0]) ⟨k,t,n,[]⟩:=
 ⟨(fun x hx=>by cases hx),_,rfl,World.ownsRow_nil _ _ _ _⟩
theorem four{w:World}{g t:Nat}{a b c d:Value}(hw:Whole w g t [a,b,c,d]):
  w.cell? ⟨g,0,none⟩=some a∧w.cell? ⟨g,1,none⟩=some b∧w.cell? ⟨g,2,none⟩=some c∧w.cell? ⟨g,3,none⟩=some d:=⟨hw.cell 0,hw.cell 1,hw.cell 2,hw.cell 3⟩
theorem z0h{w:World}{g t:Nat}{a b c d:Value}(hw:Whole w g t [a,b,c,d]):
  w.frozen? ⟨g,0,none⟩=false∧w.frozen? ⟨g,1,none⟩=false∧w.frozen? ⟨g,2,none⟩=false∧w.frozen? ⟨g,3,none⟩=false:=⟨hw.frozen 0,hw.frozen 1,hw.frozen 2,hw.frozen 3⟩
theorem zie:(prog.info? 27).map (fun i=>(i.zero,i.size,i.bytes))=some (some (.agg #[.int .i64 0,.string ⟨#[]⟩,.int .i64 0,.slice none 0 0]),4,56):=by kernel_rfl
attribute [local go_sem] z1k
theorem z5h(n a b:Int)(w:World):Calls prog 179 #[.int .i64 n,.int .i64 a,.int .i64 b] w fun e w'=>e=.returned (.bool (decide (a≤n)&&decide (n≤b)))∧w'=w:=by
 by_cases h:a≤n
 ·go_enter Tryz.func179,Tryz.ntmps179;go_wp2;go_ret;simp[h]
 ·go_enter Tryz.func179,Tryz.ntmps179;go_wp2;go_ret;simp[h]
  try omega
theorem z64{n a b:Int}{t:Bool}(h:(decide (a≤n)&&decide (n≤b))=t)(w:World):Calls prog 179 #[.int .i64 n,.int .i64 a,.int .i64 b] w fun e w'=>e=.returned (.bool t)∧w'=w:=
 h ▸ z5h n a b w
theorem ztz{p:UInt8→Bool}{s:ByteArray}{k:Nat}(h:k < s.size):∃x:UInt8,x.toNat=z03 s k∧(s.data.toList.drop k).all p=(p x&&(s.data.toList.drop (k+1)).all p):=by
 obtain⟨x,hx,ex⟩:=z5g s k h;exact⟨x,ex,by rw[hx];rfl⟩
theorem zet(t:ByteArray):(t.toList==[])=decide (t.size=0)∧t.toList.isEmpty=decide (t.size=0):=by
 have e:t.toList=t.data.toList:=by rw[ByteArray.toList_eq]
 rw[e];by_cases h:t.size=0
 ·rw[decide_eq_true h];have:t.data.toList=[]:=List.eq_nil_of_length_eq_zero (by simpa using h);rw[this];exact⟨rfl,rfl⟩
 ·rw[decide_eq_false h];have:t.data.toList≠[]:=fun hn=>h (by have:=congrArg List.length hn;simpa using this);exact⟨by simpa using this,by simpa using this⟩
theorem st_t{R a b c:Bool}(h:R=((a&&b)&&c))(ha:a=true):R=(b&&c):=by
 subst ha;simpa using h
theorem st_f{R a b c:Bool}(h:R=((a&&b)&&c))(ha:a=false):R=false:=by
 subst ha;simpa using h
theorem zib(s:ByteArray)(w:World)(hs:s.size≤281474976710656):Calls prog 180 #[.string s] w fun e w'=>e=.returned (.bool (zif s&&decide (s.size≠0)))∧w'=w:=by
 obtain⟨R,hR⟩:∃R,R=(zif s&&decide (s.size≠0)):=⟨_,rfl⟩;rw[←hR];have E0:=hid (show R=((s.data.toList.drop 0).all (fun c=>zp7 c.toNat)&&decide (s.size≠0)) from hR)
 have EN:=hid (show(s.toList != [])=decide (s.size≠0) from by
  have e:s.toList=s.data.toList:=by rw[ByteArray.toList_eq]
  rw[e];by_cases h:s.size=0
  ·rw[decide_eq_false (by simpa using h)];have:s.data.toList=[]:=List.eq_nil_of_length_eq_zero (by simpa using h);rw[this];rfl
  ·rw[decide_eq_true h];have:s.data.toList≠[]:=fun hn=>h (by have:=congrArg List.length hn;simpa using this);simpa using this)
 clear hR;go_enter Tryz.func180,Tryz.ntmps180;go_wp2;go_loopg [7] s.size (fun x i wr=>∃(k:Nat),x=s.size - k∧k≤s.size∧i=.int .i64 k∧Hid (R=((s.data.toList.drop k).all (fun c=>zp7 c.toNat)&&decide (s.size≠0)))∧wr=w)
 case atStart=>exact⟨0,rfl,Nat.zero_le _,rfl,E0,rfl⟩
 case round=>
  obtain⟨k,rfl,hk,rfl,HE,rfl⟩:=hrel;by_cases hlt:k < s.size
  ·obtain⟨x,ex,hx⟩:=ztz (p:=fun c=>zp7 c.toNat) hlt;have ST:=hid (HE.out.trans (by rw[hx]));have hy:=z1u s k;rw[ex] at ST;clear hx ex x HE E0;obtain⟨y,ey⟩:∃y,y=z03 s k:=⟨_,rfl⟩;rw[←ey] at ST hy;have hwr:wrap64 (z03 s k:Int)=(y:Int):=by rw[←ey];exact IntWalk.wrap64_in _ (by omega)
   have W1:=hid (fun W=>z5h (y:Int) 97 122 W);have W2:=hid (fun W=>z5h (y:Int) 65 90 W);have W3:=hid (fun W=>z5h (y:Int) 48 57 W);have d1:(decide ((97:Int)≤(y:Int))&&decide ((y:Int)≤122))=(decide (97≤y)&&decide (y≤122)):=by congr 1 <;> exact decide_eq_decide.2 (by omega)
   have d2:(decide ((65:Int)≤(y:Int))&&decide ((y:Int)≤90))=(decide (65≤y)&&decide (y≤90)):=by congr 1 <;> exact decide_eq_decide.2 (by omega)
   have d3:(decide ((48:Int)≤(y:Int))&&decide ((y:Int)≤57))=(decide (48≤y)&&decide (y≤57)):=by congr 1 <;> exact decide_eq_decide.2 (by omega)
   rw[d1,←hwr] at W1;rw[d2,←hwr] at W2;rw[d3,←hwr] at W3;have EB:zp7 y=((decide (97≤y)&&decide (y≤122))||(decide (65≤y)&&decide (y≤90))||(decide (48≤y)&&decide (y≤57))||decide (y=32)):=rfl
   rw[EB] at ST
   have hq:((z03 s k:Int) != 32)=!decide (y=32):=by
    rw[←ey];by_cases h:y=32
    ·subst h;rfl
    ·rw[decide_eq_false h];simp;omega
   clear d1 d2 d3 EB hwr;generalize (decide (97≤y)&&decide (y≤122))=b1 at *;generalize (decide (65≤y)&&decide (y≤90))=b2 at *;generalize (decide (48≤y)&&decide (y≤57))=b3 at *;generalize decide (y=32)=b4 at *;clear ey hy y;cases b1
   rotate_left
   ·have NX:=hid (st_t ST.out rfl);clear hq ST;go_wp2_with fail;refine(W1.out _).mono ?_;rintro e w1 ⟨rfl,hw1⟩;subst hw1;go_wp2;go_roundg (s.size - (k+1))
    case measure=>omega
    case rel=>exact⟨k+1,rfl,by omega,by go_num,NX,rfl⟩
   ·cases b2
    rotate_left
    ·have NX:=hid (st_t ST.out rfl);clear hq ST;go_wp2_with fail;refine(W1.out _).mono ?_;rintro e w1 ⟨rfl,hw1⟩;subst hw1;go_wp2_with fail;refine(W2.out _).mono ?_;rintro e w1 ⟨rfl,hw1⟩;subst hw1;go_wp2;go_roundg (s.size - (k+1))
     case measure=>omega
     case rel=>exact⟨k+1,rfl,by omega,by go_num,NX,rfl⟩
    ·cases b3
     rotate_left
     ·have NX:=hid (st_t ST.out rfl);clear hq ST;go_wp2_with fail;refine(W1.out _).mono ?_;rintro e w1 ⟨rfl,hw1⟩;subst hw1;go_wp2_with fail;refine(W2.out _).mono ?_;rintro e w1 ⟨rfl,hw1⟩;subst hw1;go_wp2_with fail;refine(W3.out _).mono ?_;rintro e w1 ⟨rfl,hw1⟩;subst hw1;go_wp2;go_roundg (s.size - (k+1))
      case measure=>omega
      case rel=>exact⟨k+1,rfl,by omega,by go_num,NX,rfl⟩
     ·cases b4
      ·have NX:=hid (st_f ST.out rfl);have q1:((z03 s k:Int) != 32)=true:=hq;clear hq ST;go_wp2_with fail;refine(W1.out _).mono ?_;rintro e w1 ⟨rfl,hw1⟩;subst hw1;go_wp2_with fail;refine(W2.out _).mono ?_;rintro e w1 ⟨rfl,hw1⟩;subst hw1;go_wp2_with fail;refine(W3.out _).mono ?_;rintro e w1 ⟨rfl,hw1⟩;subst hw1;go_wp2;go_ret;rw[NX.out];exact⟨rfl,rfl⟩
      ·have NX:=hid (st_t ST.out rfl);have q1:((z03 s k:Int) != 32)=false:=hq;clear hq ST;go_wp2_with fail;refine(W1.out _).mono ?_;rintro e w1 ⟨rfl,hw1⟩;subst hw1;go_wp2_with fail;refine(W2.out _).mono ?_;rintro e w1 ⟨rfl,hw1⟩;subst hw1;go_wp2_with fail;refine(W3.out _).mono ?_;rintro e w1 ⟨rfl,hw1⟩;subst hw1;go_wp2;go_roundg (s.size - (k+1))
       case measure=>omega
       case rel=>exact⟨k+1,rfl,by omega,by go_num,NX,rfl⟩
  ·obtain rfl:k=s.size:=by omega
   have NX:=hid (show R=decide (s.size≠0) from by
    rw[HE.out,List.drop_of_length_le (by simp)];simp)
   have q1:=EN.out;go_wp2;go_ret;rw[NX.out];obtain⟨q0,q0'⟩:=zet s;have e3:decide (s.size≠0)=!decide (s.size=0):=by simp
   refine⟨?_,rfl⟩;rw[e3,←q0']
   first
    | rfl
    | (unfold bne;rw[q0,q0'])
    | (rw[q0',←q0];rfl)
end Go.Proofs.YtmalkppcahogjaaGreatDoor
namespace Go.Proofs
open Lib (hid)
open Go.Proofs.Tryz (prog)
open Go.Shelf
def Tryz.lays145_ren:Go.Shelf.Ren:=⟨fun|145=>291|220=>343|219=>368|217=>194|225=>380|224=>381|267=>382|266=>276|314=>395|n=>n,fun|9=>9|4=>4|59=>288|3=>3|5=>5|46=>275|146=>363|51=>342|n=>n,fun|1=>0|n=>n⟩
theorem Tryz.lays145:Go.Proofs.Lays.n145 prog Tryz.lays145_ren:={
 mixed:=by kernel_rfl
 f145:=Tryz.func291.trans (congrArg some (by kernel_rfl))
 f217:=Tryz.func194.trans (congrArg some (by kernel_rfl))
 f219:=Tryz.func368.trans (congrArg some (by kernel_rfl))
 f220:=Tryz.func343.trans (congrArg some (by kernel_rfl))
 f224:=Tryz.func381.trans (congrArg some (by kernel_rfl))
 f225:=Tryz.func380.trans (congrArg some (by kernel_rfl))
 f266:=Tryz.func276.trans (congrArg some (by kernel_rfl))
 f267:=Tryz.func382.trans (congrArg some (by kernel_rfl))
 f314:=Tryz.func395.trans (congrArg some (by kernel_rfl))
 t3:=Tryz.underlying3
 a3:=Tryz.isAgg3
 z3:=Tryz.sizeOf3
 v3:=Tryz.zeroValue3
 t4:=Tryz.underlying4
 a4:=Tryz.isAgg4
 z4:=Tryz.sizeOf4
 v4:=Tryz.zeroValue4
 t5:=Tryz.underlying5
 a5:=Tryz.isAgg5
 z5:=Tryz.sizeOf5
 v5:=Tryz.zeroValue5
 t9:=Tryz.underlying9
 a9:=Tryz.isAgg9
 z9:=Tryz.sizeOf9
 v9:=Tryz.zeroValue9
 t46:=Tryz.underlying275
 a46:=Tryz.isAgg275
 z46:=Tryz.sizeOf275
 v46:=Tryz.zeroValue275
 t51:=Tryz.underlying342
 a51:=Tryz.isAgg342
 z51:=Tryz.sizeOf342
 v51:=Tryz.zeroValue342
 t59:=Tryz.underlying288
 a59:=Tryz.isAgg288
 z59:=Tryz.sizeOf288
 v59:=Tryz.zeroValue288
 t146:=Tryz.underlying363
 a146:=Tryz.isAgg363
 z146:=Tryz.sizeOf363
 v146:=Tryz.zeroValue363
 g1:=by kernel_rfl }
open Go.RowKit Go.Lib in
theorem Tryz.strings_Cut(s sep:ByteArray)(m:Int)(w:World)(hs:s.size < 4294967281)(hm:w.cell? ⟨0,0,none⟩=some (.int .i64 m)):
  Calls prog 291 #[.string s,.string sep] w fun e w'=>e=.returned (.tuple #[.string ⟨(Lib.cut s.data.toList sep.data.toList).1.toArray⟩,.string ⟨(Lib.cut s.data.toList sep.data.toList).2.1.toArray⟩,.bool (Lib.cut s.data.toList sep.data.toList).2.2])∧∃n,w'=w.drewN n:=Any.strings_Cut Tryz.lays145 s sep m w hs hm
end Go.Proofs
namespace Go.Proofs.YtmalkppcahogjaaGreatDoor
open Lib (hid)
open Go.Proofs.Tryz (prog)
open Go.RowKit
attribute [local go_sem] z1k
attribute [local go_sem] z1k
theorem z90(s:ByteArray)(p n:Nat):s.extract p (p+n)=toB ((s.data.toList.drop p).take n):=by
 apply ByteArray.ext;apply Array.ext';simp[toB,List.extract_eq_take_drop]
def Rr(g:Nat)(s:ByteArray)(b:Bool)(w:World):Prop:=Whole w g 199 [.string s,.bool b]
theorem Rr.fr{g:Nat}{s:ByteArray}{b:Bool}{w w':World}(h:Rr g s b w)(hf:Fr [] w w'):Rr g s b w':=Whole.fr h hf (by simp)
theorem Rr.two{g:Nat}{s:ByteArray}{b:Bool}{w:World}(h:Rr g s b w):(w.cell? ⟨g,0,none⟩=some (.string s)∧w.cell? ⟨g,1,none⟩=some (.bool b))∧w.frozen? ⟨g,0,none⟩=false∧w.frozen? ⟨g,1,none⟩=false:=⟨⟨Whole.cell h 0,Whole.cell h 1⟩,Whole.frozen h 0,Whole.frozen h 1⟩
theorem Rr.lt{g:Nat}{s:ByteArray}{b:Bool}{w:World}(h:Rr g s b w):g < w.heap.size:=Whole.lt h
theorem Rr.set{g:Nat}{s s':ByteArray}{b b':Bool}{w:World}(h:Rr g s b w):Rr g s' b' ((w.setCell ⟨g,1,none⟩ (.bool b')).setCell ⟨g,0,none⟩ (.string s')):=Whole.set_ (Whole.set_ h 1 _) 0 _
theorem zwe{g:Nat}{w:World}(u v:Value):Fr [g] w ((w.setCell ⟨g,1,none⟩ u).setCell ⟨g,0,none⟩ v):=((Fr.refl [g] w).setCell (p:=⟨g,1,none⟩) (.inl (by simp)) u).setCell (p:=⟨g,0,none⟩) (.inl (by simp)) v
def Mx(w:World):Prop:=∃m,w.cell? ⟨0,0,none⟩=some (.int .i64 m)
theorem Mx.fr{w w':World}{S:List Nat}(h:Mx w)(hf:Fr S w w')(hS:∀k∈S,0 < k):Mx w':=by
 obtain⟨m,hm⟩:=h;exact⟨m,hf.cell hm (fun hk=>by have:=hS _ hk;exact absurd this (Nat.lt_irrefl _))⟩
theorem zyu(s:ByteArray)(w:World)(hs:s.size < 4294967281)(hm:Mx w):
  Calls prog 291 #[.string s,.string ⟨#[13,10]⟩] w fun e w'=>(∃a r ok,e=.returned (.tuple #[.string (toB a),.string (toB r),.bool ok])∧((ok=true∧z5p s.data.toList=some (a,r))∨(ok=false∧z5p s.data.toList=none∧a=s.data.toList∧r=[])))∧Fr [] w w':=by
 obtain⟨m,hm⟩:=hm;refine(Tryz.strings_Cut s ⟨#[13,10]⟩ m w hs hm).mono ?_;rintro e w' ⟨rfl,n,rfl⟩;refine⟨?_,(Fr.refl _ _).drewN _⟩;have h:Lib.cut s.data.toList (⟨#[13,10]⟩:ByteArray).data.toList=_:=zy4 s.data.toList;rw[h];rcases hc:z5p s.data.toList with _|p
 ·exact⟨_,_,_,rfl,.inr ⟨rfl,rfl,rfl,rfl⟩⟩
 ·exact⟨_,_,_,rfl,.inl ⟨rfl,rfl⟩⟩
theorem zcg{l a b:List UInt8}(h:z5p l=some (a,b)):a.length+2+b.length=l.length:=by
 rw[zcu h];simp;omega
def LineP(g:Nat)(s:ByteArray)(w:World)(e:Ending)(w':World):Prop:=
 ∃a r b,e=.returned (.string (toB a))∧Rr g (toB r) b w'∧Fr [g] w w'∧a.length≤s.size∧r.length≤s.size∧((b=false∧z5p s.data.toList=some (a,r))∨(b=true∧z5p s.data.toList=none))
theorem zg6(g:Nat)(s:ByteArray)(w:World)(hs:s.size < 4294967281)(h:Rr g s false w)(hm:Mx w):
  Calls prog 218 #[.pointer (some ⟨g,0,none⟩)] w (LineP g s w):=by
 obtain⟨⟨c0,c1⟩,-,-⟩:=h.two;have CU:=hid (zyu s w hs hm);have H:=hid h;clear h hm;go_enter Tryz.func218,Tryz.ntmps218;go_wp2_with fail;refine CU.out.mono ?_;rintro e w1 ⟨⟨a,r,ok,rfl,hc⟩,f1⟩;have F1:=hid f1;have H1:=hid (H.out.fr f1);clear f1 c0 c1;obtain⟨⟨c0,c1⟩,z0,z1⟩:=H1.out.two;have HC:=hid hc;clear hc;cases ok
 ·go_wp2;go_ret;obtain⟨h,_⟩|⟨_,h1,h2,h3⟩:=HC.out
  ·cases h
  ·subst h2 h3;exact⟨_,_,true,rfl,Rr.set (s:=s) (b:=false) H1.out,F1.out.up.trans (zwe _ _),by simp,by simp,.inr ⟨rfl,h1⟩⟩
 ·go_wp2;go_ret;obtain⟨_,h1⟩|⟨h,_⟩:=HC.out
  ·have:=zcg h1;exact⟨_,_,false,rfl,Rr.set (s:=s) (b:=false) H1.out,F1.out.up.trans (zwe _ _),by simp at this;omega,by simp at this;omega,.inl ⟨rfl,h1⟩⟩
  ·cases h
theorem znh(n:Int)(w:World):Calls prog 179 #[.int .i64 n,.int .i64 (-999999999),.int .i64 999999999] w fun e w'=>e=.returned (.bool (z0i n))∧w'=w:=z5h n _ _ w
def zoa(l:List UInt8):Option (Int×List UInt8):=(z5p l).bind fun p=>(z2z p.1).map fun n=>(n,p.2)
def NumbP(g:Nat)(s:ByteArray)(w:World)(e:Ending)(w':World):Prop:=
 ∃(n:Int) (r:List UInt8) (b:Bool),e=.returned (.int .i64 n)∧(-9223372036854775808≤n∧n≤9223372036854775807)∧Rr g (toB r) b w'∧Fr [g] w w'∧r.length≤s.size∧((b=false∧zoa s.data.toList=some (n,r))∨(b=true∧zoa s.data.toList=none))
theorem Rr.set1{g:Nat}{s:ByteArray}{b b':Bool}{w:World}(h:Rr g s b w):Rr g s b' (w.setCell ⟨g,1,none⟩ (.bool b')):=Whole.set_ h 1 _
theorem Fr.gone{g:Nat}{w w':World}(h:Fr [g] w w')(v:Value):Fr [g] w (w'.setCell ⟨g,1,none⟩ v):=h.setCell (p:=⟨g,1,none⟩) (.inl (by simp)) v
structure Ctx(w0:World)(g:Nat)(w:World):Prop where
 v:Vars w0
 m:Mx w0
 lt:w0.heap.size≤g
 f:Fr [] w0 w
theorem Ctx.go{w0 w w':World}{g:Nat}(h:Ctx w0 g w)(hf:Fr [g] w w'):Ctx w0 g w':=⟨h.v,h.m,h.lt,h.f.step hf (fun x hx=>.inr (by have:=h.lt;simp at hx;omega))⟩
theorem Ctx.same{w0 w w':World}{g:Nat}(h:Ctx w0 g w)(hf:Fr [] w w'):Ctx w0 g w':=h.go hf.up
theorem Ctx.vars{w0 w:World}{g:Nat}(h:Ctx w0 g w):Vars w:=h.v.fr h.f
theorem Ctx.mx{w0 w:World}{g:Nat}(h:Ctx w0 g w):Mx w:=h.m.fr h.f (by simp)
theorem z4e(w0:World)(g:Nat)(s:ByteArray)(w:World)(hs:s.size < 4294967281)(h:Rr g s false w)(hx:Ctx w0 g w):
  Calls prog 219 #[.pointer (some ⟨g,0,none⟩)] w (NumbP g s w):=by
 have LA:=hid (zg6 g s w hs h hx.mx);have HX:=hid hx;clear h hx;go_enter Tryz.func219,Tryz.ntmps219;go_wp2_with fail;refine LA.out.mono ?_;rintro e w1 ⟨a,r,b,rfl,r1,f1,la,lr,hc⟩;have X1:=hid (HX.out.go f1);have AT:=hid (zmm (toB a) w1 X1.out.vars (by rw[z2q];omega));have F1:=hid f1;have R1:=hid r1;have HC:=hid hc;clear f1 r1 hc;go_wp2_with fail;refine AT.out.mono ?_;rintro e w2 ⟨n,v,rfl,hn,hc2,f2⟩;have X2:=hid (X1.out.same f2);have F2:=hid (F1.out.trans f2.up);have R2:=hid (R1.out.fr f2);have IT:=hid (zfx n w2 X2.out.vars hn);have II:=hid (fun(W:World)=>znh n W);obtain⟨⟨c0,c1⟩,z0,z1⟩:=R2.out.two;clear f2 F1 R1 X1 AT LA;cases b
 ·have hcut:z5p s.data.toList=some (a,r):=by
   obtain⟨_,h⟩|⟨h,_⟩:=HC.out
   ·exact h
   ·cases h
  have hnum:zoa s.data.toList=(z2z (toB a).data.toList).map fun n=>(n,r):=by
   unfold zoa;rw[hcut,z30];rfl
  clear hcut;rcases hc2 with⟨rfl,ho⟩|⟨⟨t,N,rfl⟩,hno⟩
  ·have hp:=zh0 ho;have hq:=eqB ⟨(Lib.itoa n).toArray⟩ (toB a);by_cases h1:Lib.itoa n=(toB a).data.toList
   ·have e1:(⟨(Lib.itoa n).toArray⟩:ByteArray)=toB a:=by rw[h1]
    rw[e1] at hq IT;have q1:((toB a).toList==(toB a).toList)=true:=by simp
    by_cases h2:z0i n=true
    ·rw[if_pos ⟨h1,h2⟩] at hp;rw[hp] at hnum;rw[h2] at II;have HN:=hid hnum;clear hp ho hq h1 h2 e1 hnum;generalize toB a=ta at *;go_wp2_with fail;refine IT.out.mono ?_;rintro e w3 ⟨rfl,f3⟩;go_wp2_with fail;refine(II.out _).mono ?_;rintro e w4 ⟨rfl,h4⟩;subst h4;have R3:=hid (R2.out.fr f3);have F3:=hid (F2.out.trans f3.up);clear c0 c1 z0 z1;obtain⟨⟨c0,c1⟩,z0,z1⟩:=R3.out.two;go_wp2;go_ret;exact⟨n,r,false,rfl,hn,R3.out.set1,F3.out.gone _,lr,.inl ⟨rfl,HN.out⟩⟩
    ·rw[if_neg (fun h=>h2 h.2)] at hp;rw[hp] at hnum;rw[show z0i n=false by simpa using h2] at II;have HN:=hid hnum;clear hp ho hq h1 h2 e1 hnum;generalize toB a=ta at *;go_wp2_with fail;refine IT.out.mono ?_;rintro e w3 ⟨rfl,f3⟩;go_wp2_with fail;refine(II.out _).mono ?_;rintro e w4 ⟨rfl,h4⟩;subst h4;have R3:=hid (R2.out.fr f3);have F3:=hid (F2.out.trans f3.up);clear c0 c1 z0 z1;obtain⟨⟨c0,c1⟩,z0,z1⟩:=R3.out.two;go_wp2;go_ret;exact⟨n,r,true,rfl,hn,R3.out.set1,F3.out.gone _,lr,.inr ⟨rfl,HN.out⟩⟩
   ·rw[if_neg (fun h=>h1 h.1)] at hp;rw[hp] at hnum;have HN:=hid hnum
    have q1:((⟨(Lib.itoa n).toArray⟩:ByteArray).toList==(toB a).toList)=false:=by
     rw[hq];exact decide_eq_false (fun e=>h1 (by rw[←e]))
    clear hp ho hq h1 hnum;generalize (⟨(Lib.itoa n).toArray⟩:ByteArray)=ia at *;generalize toB a=ta at *;go_wp2_with fail;refine IT.out.mono ?_;rintro e w3 ⟨rfl,f3⟩;have R3:=hid (R2.out.fr f3);have F3:=hid (F2.out.trans f3.up);clear c0 c1 z0 z1;obtain⟨⟨c0,c1⟩,z0,z1⟩:=R3.out.two;go_wp2;go_ret;exact⟨n,r,true,rfl,hn,R3.out.set1,F3.out.gone _,lr,.inr ⟨rfl,HN.out⟩⟩
  ·rw[hno] at hnum;have HN:=hid hnum;clear hno hnum;go_wp2;go_ret;exact⟨n,r,true,rfl,hn,R2.out.set1,F2.out.gone _,lr,.inr ⟨rfl,HN.out⟩⟩
 ·have HN:=hid (show zoa s.data.toList=none from by
   obtain⟨h,_⟩|⟨_,h⟩:=HC.out
   ·cases h
   ·unfold zoa;rw[h];rfl)
  clear hc2;go_wp2;go_ret;exact⟨n,r,true,rfl,hn,R2.out.set1,F2.out.gone _,lr,.inr ⟨rfl,HN.out⟩⟩
def z9n(n:Int)(l:List UInt8):Option (List UInt8×List UInt8):=
 if n < 0 then none else if (zon (l.take n.toNat) (l.drop n.toNat)).2.2=0 then some (l.take n.toNat,(l.drop n.toNat).drop 2) else none
theorem zsw{n:Int}{l:List UInt8}(h:n < 0):z9n n l=none:=if_pos h
theorem zkw{k:Nat}{l:List UInt8}(h:l.length < k+2):z9n (k:Int) l=none:=by
 unfold z9n;rw[if_neg (by omega),Int.toNat_natCast];have hl:(l.drop k).length < 2:=by rw[List.length_drop];omega
 rw[if_neg];rcases hd:l.drop k with _|⟨x,_|⟨y,u⟩⟩
 ·intro h0;exact absurd (show(8:Int)=0 from h0) (by decide)
 ·intro h0;by_cases hx:x.toNat=13
  ·have:zon (l.take k) [x]=([],[],8):=if_pos hx;rw[this] at h0;exact absurd h0 (by decide)
  ·have:zon (l.take k) [x]=([],[],1):=if_neg hx;rw[this] at h0;exact absurd h0 (by decide)
 ·rw[hd] at hl;simp at hl;omega
theorem zqv{k:Nat}{l:List UInt8}(h:k+2≤l.length):z9n (k:Int) l=if (l.drop k).take 2=[13,10] then some (l.take k,l.drop (k+2)) else none:=by
 unfold z9n;rw[if_neg (by omega),Int.toNat_natCast];have hl:2≤(l.drop k).length:=by rw[List.length_drop];omega
 have h2:l.drop (k+2)=(l.drop k).drop 2:=by rw[List.drop_drop]
 rw[h2];generalize l.take k=a;rcases hd:l.drop k with _|⟨x,_|⟨y,u⟩⟩
 ·rw[hd] at hl;simp at hl
 ·rw[hd] at hl;simp at hl
 ·show(if (if x.toNat=13 then (if y.toNat=10 then (a,u,(0:Int)) else ([],[],1)) else ([],[],1)).2.2=0 then some (a,u) else none)=if [x,y]=[13,10] then some (a,u) else none
  by_cases hx:x.toNat=13
  ·by_cases hy:y.toNat=10
   ·rw[if_pos hx,if_pos hy,if_pos rfl,if_pos];rw[show x=13 from UInt8.toNat_inj.1 hx,show y=10 from UInt8.toNat_inj.1 hy]
   ·rw[if_pos hx,if_neg hy,if_neg (show ¬(1:Int)=0 by decide),if_neg (fun e=>hy (by injection e with _ e;injection e with e;rw[e];rfl))]
  ·rw[if_neg hx,if_neg (show ¬(1:Int)=0 by decide),if_neg (fun e=>hx (by injection e with e;rw[e];rfl))]
theorem zz5(s:ByteArray)(k:Nat):(s.extract k (k+2)).toList=(s.data.toList.drop k).take 2:=by
 rw[ByteArray.toList_eq,z90,z30]
theorem zka(s:ByteArray)(k:Nat)(h:k≤s.size):s.extract k s.size=toB (s.data.toList.drop k):=by
 have:=z90 s k (s.size - k);rw[show k+(s.size - k)=s.size by omega] at this;rw[this,List.take_of_length_le (by simp)]
theorem zti(s:ByteArray)(k:Nat):s.extract 0 k=toB (s.data.toList.take k):=by
 have:=z90 s 0 k;rw[Nat.zero_add,List.drop_zero] at this;exact this
def TextP(n:Int)(b:Bool)(g:Nat)(s:ByteArray)(w:World)(e:Ending)(w':World):Prop:=
 ∃a r b',e=.returned (.string (toB a))∧Rr g (toB r) b' w'∧Fr [g] w w'∧((z9n n s.data.toList=some (a,r)∧b'=b)∨(z9n n s.data.toList=none∧b'=true))
theorem Rr.set2{g:Nat}{s s':ByteArray}{b b':Bool}{w:World}(h:Rr g s b w):Rr g s' b' ((w.setCell ⟨g,0,none⟩ (.string s')).setCell ⟨g,1,none⟩ (.bool b')):=Whole.set_ (Whole.set_ h 0 _) 1 _
theorem Rr.set0{g:Nat}{s s':ByteArray}{b:Bool}{w:World}(h:Rr g s b w):Rr g s' b (w.setCell ⟨g,0,none⟩ (.string s')):=Whole.set_ h 0 _
theorem fr_two'{g:Nat}{w:World}(u v:Value):Fr [g] w ((w.setCell ⟨g,0,none⟩ u).setCell ⟨g,1,none⟩ v):=((Fr.refl [g] w).setCell (p:=⟨g,0,none⟩) (.inl (by simp)) u).setCell (p:=⟨g,1,none⟩) (.inl (by simp)) v
theorem zsq(n:Int)(b:Bool)(g:Nat)(s:ByteArray)(w:World)(hn:-9223372036854775808≤n∧n≤9223372036854775807)(hs:s.size < 4294967281)(h:Rr g s b w):
  Calls prog 220 #[.pointer (some ⟨g,0,none⟩),.int .i64 n] w (TextP n b g s w):=by
 obtain⟨⟨c0,c1⟩,z0,z1⟩:=h.two;have H:=hid h;clear h;by_cases h0:n < 0
 ·have E:=hid (zsw (l:=s.data.toList) h0);go_enter Tryz.func220,Tryz.ntmps220;go_wp2;go_ret;exact⟨[],[],true,rfl,Rr.set2 H.out,fr_two' _ _,.inr ⟨E.out,rfl⟩⟩
 ·obtain⟨k,rfl⟩:∃k:Nat,n=k:=⟨n.toNat,by omega⟩;by_cases h2:s.size < k+2
  ·have E:=hid (zkw (k:=k) (l:=s.data.toList) (by simpa using h2));have q:(k:Int) > (s.size:Int) - 2:=by omega
   go_enter Tryz.func220,Tryz.ntmps220;go_wp2;go_ret;exact⟨[],[],true,rfl,Rr.set2 H.out,fr_two' _ _,.inr ⟨E.out,rfl⟩⟩
  ·have q:¬(k:Int) > (s.size:Int) - 2:=by omega
   have hk:k+2≤s.size:=by omega
   have E:=zqv (k:=k) (l:=s.data.toList) (by simpa using hk);rw[←zz5] at E;by_cases he:(s.extract k (k+2)).toList=[13,10]
   ·rw[if_pos he] at E;have E:=hid E;have q1:((s.extract k (k+2)).toList==[13,10])=true:=by rw[he];rfl
    have X0:=hid (zti s k);have X1:=hid (zka s (k+2) hk);clear he;go_enter Tryz.func220,Tryz.ntmps220;go_wp2;go_ret;refine⟨_,_,b,?_,?_,?_,.inl ⟨E.out,rfl⟩⟩
    ·rw[←X0.out];rfl
    ·rw[←X1.out];exact H.out.set0
    ·exact(Fr.refl [g] w).setCell (p:=⟨g,0,none⟩) (.inl (by simp)) _
   ·rw[if_neg he] at E;have E:=hid E;have q1:((s.extract k (k+2)).toList==[13,10])=false:=by simpa using he
    clear he;go_enter Tryz.func220,Tryz.ntmps220;go_wp2;go_ret;exact⟨[],[],true,rfl,Rr.set2 H.out,fr_two' _ _,.inr ⟨E.out,rfl⟩⟩
attribute [local go_sem] z1k
def set4(w:World)(o:Nat)(a b c d:Value):World:=(((w.setCell ⟨o,0,none⟩ a).setCell ⟨o,1,none⟩ b).setCell ⟨o,2,none⟩ c).setCell ⟨o,3,none⟩ d
theorem Rr.set4{g o:Nat}{s:ByteArray}{b:Bool}{w:World}(h:Rr g s b w)(ho:g≠o)(x y z u:Value):Rr g s b (set4 w o x y z u):=
 Whole.far (Whole.far (Whole.far (Whole.far h ho _) ho _) ho _) ho _
theorem z0g{S:List Nat}{w w':World}{o:Nat}(h:Fr S w w')(ho:w.heap.size≤o)(x y z u:Value):Fr S w (set4 w' o x y z u):=
 (((h.setCell (p:=⟨o,0,none⟩) (.inr ho) x).setCell (p:=⟨o,1,none⟩) (.inr ho) y).setCell (p:=⟨o,2,none⟩) (.inr ho) z).setCell (p:=⟨o,3,none⟩) (.inr ho) u
def zat:List Value:=[.int .i64 0,.string ⟨#[]⟩,.int .i64 0,.slice none 0 0]
def OneP(g:Nat)(s:ByteArray)(w:World)(e:Ending)(w':World):Prop:=
 ∃k t n b r,e=.returned (.agg #[.int .i64 k,.string t,.int .i64 n,.slice none 0 0])∧Rr g (toB r) b w'∧Fr [g] w w'∧((z7y s.data.toList=some (⟨k,t,n,0⟩,r)∧b=false)∨(z7y s.data.toList=none∧b=true))
def q0i(g:Nat)(w:World)(e:Ending)(w':World):Prop:=(∃r,e=.returned (.agg #[.int .i64 6,.string ⟨#[]⟩,.int .i64 0,.slice none 0 0])∧Rr g (toB r) true w')∧Fr [g] w w'
theorem z5z(w:World)(p:Addr)(v:Value)(t:TypeId)(cs:List Value):Whole ((w.setCell p v).alloc (.cells cs.toArray t)) w.heap.size t cs:=by
 have:=Whole.new (w.setCell p v) t cs;rwa[show(w.setCell p v).heap.size=w.heap.size from by simp[World.setCell]] at this
theorem zy6(w0:World)(g:Nat)(s:ByteArray)(w:World)(hs:s.size < 4294967281)(h:Rr g s false w)(hx:Ctx w0 g w):
  Calls prog 221 #[.pointer (some ⟨g,0,none⟩),.bool false] w (q0i g w):=by
 have hg:=h.lt;have hne:w.heap.size≠g:=by omega
 have A1:=(Fr.refl [] w).alloc (.cells #[.int .i64 0,.string ⟨#[]⟩,.int .i64 0,.slice none 0 0] 27);have NU:=hid (z4e w0 g s _ hs (h.fr A1) (hx.same A1));have V1:=hid (Whole.new w 27 zat);have FA:=hid A1;clear h hx A1;go_enter Tryz.func221,Tryz.ntmps221;go_wp2_with fail;refine NU.out.mono ?_;rintro e w1 ⟨n,r,b,rfl,hn,r1,f1,lr,-⟩;have F1:=hid (FA.out.up.trans f1);have R1:=hid r1;have V2:=hid (V1.out.fr f1 (by simpa using hne));have hsz:=f1.size;have hg1:=r1.lt;have hh1:=V2.out.lt;obtain⟨⟨c0,c1⟩,z0,z1⟩:=R1.out.two;obtain⟨a0,a1,a2,a3⟩:=four V2.out;obtain⟨b0,b1,b2,b3⟩:=z0h V2.out;have hne1:¬w.heap.size=g:=hne;have hne2:¬g=w.heap.size:=fun e=>hne e.symm;clear f1 r1 NU V1;have hhn:w.heap.size < w1.heap.size:=hh1;cases b
 ·by_cases hp:n > 0
  ·go_wp2;go_loopg [5] 0 (fun x s5 wr=>x=0∧s5=.int .i64 n∧Rr g (toB r) true wr∧Whole wr w.heap.size 27 zat∧Whole wr w1.heap.size 27 [.int .i64 6,.string ⟨#[]⟩,.int .i64 0,.slice none 0 0]∧Fr [g] w wr)
   case atStart=>exact⟨rfl,rfl,Whole.alloc (Rr.set1 (b':=true) R1.out) _,Whole.alloc (Whole.far V2.out (p:=⟨g,1,none⟩) hne _) _,z5z _ _ _ _ _,(F1.out.gone _).alloc _⟩
   case round=>
    obtain⟨rfl,rfl,hR,hV,hO,hF⟩:=hrel;have RR:=hid hR;have VV:=hid hV;have OO:=hid hO;have FF:=hid hF;clear c0 c1 z0 z1 a0 a1 a2 a3 b0 b1 b2 b3 hR hV hO hF;obtain⟨⟨c0,c1⟩,z0,z1⟩:=RR.out.two;obtain⟨a0,a1,a2,a3⟩:=four VV.out;obtain⟨b0,b1,b2,b3⟩:=z0h VV.out;obtain⟨o0,o1,o2,o3⟩:=four OO.out;go_wp2;refine bodyPost_ret (v:=.agg #[.int .i64 6,.string ⟨#[]⟩,.int .i64 0,.slice none 0 0]) (by simp[results,Tryz.results221,go_sem,a0,a1,a2,a3]) rfl ?_;exact⟨⟨r,rfl,Rr.set4 RR.out (fun e=>hne e.symm) _ _ _ _⟩,z0g FF.out (Nat.le_refl _) _ _ _ _⟩
  ·go_wp2;go_loopg [5] 0 (fun x s5 wr=>x=0∧s5=.int .i64 n∧Rr g (toB r) true wr∧Whole wr w.heap.size 27 zat∧Whole wr w1.heap.size 27 [.int .i64 6,.string ⟨#[]⟩,.int .i64 0,.slice none 0 0]∧Fr [g] w wr)
   case atStart=>exact⟨rfl,rfl,Whole.alloc (Rr.set1 (b':=true) R1.out) _,Whole.alloc (Whole.far V2.out (p:=⟨g,1,none⟩) hne _) _,z5z _ _ _ _ _,(F1.out.gone _).alloc _⟩
   case round=>
    obtain⟨rfl,rfl,hR,hV,hO,hF⟩:=hrel;have RR:=hid hR;have VV:=hid hV;have OO:=hid hO;have FF:=hid hF;clear c0 c1 z0 z1 a0 a1 a2 a3 b0 b1 b2 b3 hR hV hO hF;obtain⟨⟨c0,c1⟩,z0,z1⟩:=RR.out.two;obtain⟨a0,a1,a2,a3⟩:=four VV.out;obtain⟨b0,b1,b2,b3⟩:=z0h VV.out;obtain⟨o0,o1,o2,o3⟩:=four OO.out;go_wp2;refine bodyPost_ret (v:=.agg #[.int .i64 6,.string ⟨#[]⟩,.int .i64 0,.slice none 0 0]) (by simp[results,Tryz.results221,go_sem,a0,a1,a2,a3]) rfl ?_;exact⟨⟨r,rfl,Rr.set4 RR.out (fun e=>hne e.symm) _ _ _ _⟩,z0g FF.out (Nat.le_refl _) _ _ _ _⟩
 ·by_cases hp:n > 0
  ·go_wp2;go_loopg [5] 0 (fun x s5 wr=>x=0∧s5=.int .i64 n∧Rr g (toB r) true wr∧Whole wr w.heap.size 27 zat∧Whole wr w1.heap.size 27 [.int .i64 6,.string ⟨#[]⟩,.int .i64 0,.slice none 0 0]∧Fr [g] w wr)
   case atStart=>exact⟨rfl,rfl,Whole.alloc (Rr.set1 (b':=true) R1.out) _,Whole.alloc (Whole.far V2.out (p:=⟨g,1,none⟩) hne _) _,z5z _ _ _ _ _,(F1.out.gone _).alloc _⟩
   case round=>
    obtain⟨rfl,rfl,hR,hV,hO,hF⟩:=hrel;have RR:=hid hR;have VV:=hid hV;have OO:=hid hO;have FF:=hid hF;clear c0 c1 z0 z1 a0 a1 a2 a3 b0 b1 b2 b3 hR hV hO hF;obtain⟨⟨c0,c1⟩,z0,z1⟩:=RR.out.two;obtain⟨a0,a1,a2,a3⟩:=four VV.out;obtain⟨b0,b1,b2,b3⟩:=z0h VV.out;obtain⟨o0,o1,o2,o3⟩:=four OO.out;go_wp2;refine bodyPost_ret (v:=.agg #[.int .i64 6,.string ⟨#[]⟩,.int .i64 0,.slice none 0 0]) (by simp[results,Tryz.results221,go_sem,a0,a1,a2,a3]) rfl ?_;exact⟨⟨r,rfl,Rr.set4 RR.out (fun e=>hne e.symm) _ _ _ _⟩,z0g FF.out (Nat.le_refl _) _ _ _ _⟩
  ·go_wp2;go_loopg [5] 0 (fun x s5 wr=>x=0∧s5=.int .i64 n∧Rr g (toB r) true wr∧Whole wr w.heap.size 27 zat∧Whole wr w1.heap.size 27 [.int .i64 6,.string ⟨#[]⟩,.int .i64 0,.slice none 0 0]∧Fr [g] w wr)
   case atStart=>exact⟨rfl,rfl,Whole.alloc (Rr.set1 (b':=true) R1.out) _,Whole.alloc (Whole.far V2.out (p:=⟨g,1,none⟩) hne _) _,z5z _ _ _ _ _,(F1.out.gone _).alloc _⟩
   case round=>
    obtain⟨rfl,rfl,hR,hV,hO,hF⟩:=hrel;have RR:=hid hR;have VV:=hid hV;have OO:=hid hO;have FF:=hid hF;clear c0 c1 z0 z1 a0 a1 a2 a3 b0 b1 b2 b3 hR hV hO hF;obtain⟨⟨c0,c1⟩,z0,z1⟩:=RR.out.two;obtain⟨a0,a1,a2,a3⟩:=four VV.out;obtain⟨b0,b1,b2,b3⟩:=z0h VV.out;obtain⟨o0,o1,o2,o3⟩:=four OO.out;go_wp2;refine bodyPost_ret (v:=.agg #[.int .i64 6,.string ⟨#[]⟩,.int .i64 0,.slice none 0 0]) (by simp[results,Tryz.results221,go_sem,a0,a1,a2,a3]) rfl ?_;exact⟨⟨r,rfl,Rr.set4 RR.out (fun e=>hne e.symm) _ _ _ _⟩,z0g FF.out (Nat.le_refl _) _ _ _ _⟩
theorem zlr{l:List UInt8}(h:l.length=0):z7y l=none:=by
 cases l with
 | nil=>rfl
 | cons x l=>simp at h
theorem zaf{c:UInt8}{l:List UInt8}(h:c.toNat=43):z7y (c :: l)=(z5p l).map fun p=>(⟨1,toB p.1,0,0⟩,p.2):=by
 show(z5p l).bind _=_;rcases z5p l with _|p
 ·rfl
 ·exact if_pos h
theorem z81{c:UInt8}{l:List UInt8}(h:c.toNat=45):z7y (c :: l)=(zoa l).map fun p=>(⟨2,⟨#[]⟩,p.1,0⟩,p.2):=by
 show(z5p l).bind _=Option.map _ ((z5p l).bind _);rcases z5p l with _|p
 ·rfl
 ·rw[Option.bind_some,Option.bind_some,if_neg (by omega),if_pos h,Option.map_map];rfl
theorem z86{c:UInt8}{l:List UInt8}(h:c.toNat=58):z7y (c :: l)=(zoa l).map fun p=>(⟨3,⟨#[]⟩,p.1,0⟩,p.2):=by
 show(z5p l).bind _=Option.map _ ((z5p l).bind _);rcases z5p l with _|p
 ·rfl
 ·rw[Option.bind_some,Option.bind_some,if_neg (by omega),if_neg (by omega),if_pos h,Option.map_map];rfl
theorem z6z{c:UInt8}{l:List UInt8}(h:c.toNat=36):z7y (c :: l)=(zoa l).bind fun q=>if q.1=-1 then some (⟨5,⟨#[]⟩,0,0⟩,q.2) else (z9n q.1 q.2).map fun p=>(⟨4,toB p.1,0,0⟩,p.2):=by
 show(z5p l).bind _=Option.bind ((z5p l).bind _) _;rcases z5p l with _|p
 ·rfl
 ·rw[Option.bind_some,Option.bind_some,if_neg (by omega),if_neg (by omega),if_neg (by omega),if_pos h];rcases z2z p.1 with _|n
  ·rfl
  ·show(if n=-1 then _ else _)=if n=-1 then _ else (z9n n p.2).map _
   by_cases h1:n=-1
   ·rw[if_pos h1,if_pos h1]
   ·rw[if_neg h1,if_neg h1];unfold z9n;by_cases h2:n < 0
    ·rw[if_pos h2,if_pos h2];rfl
    ·rw[if_neg h2,if_neg h2];by_cases h3:(zon (p.2.take n.toNat) (p.2.drop n.toNat)).2.2=0
     ·rw[if_pos h3,if_pos h3];rfl
     ·rw[if_neg h3,if_neg h3];rfl
theorem z9w{c:UInt8}{l:List UInt8}(h1:c.toNat≠43)(h2:c.toNat≠45)(h3:c.toNat≠58)(h4:c.toNat≠36):z7y (c :: l)=none:=by
 show(z5p l).bind _=_;rcases z5p l with _|p
 ·rfl
 ·rw[Option.bind_some,if_neg h1,if_neg h2,if_neg h3,if_neg h4]
theorem q02(w0:World)(g:Nat)(s:ByteArray)(w:World)(hs:s.size < 4294967281)(h:Rr g s false w)(hx:Ctx w0 g w):
  Calls prog 169 #[.pointer (some ⟨g,0,none⟩),.bool false] w (OneP g s w):=by
 have hg:=h.lt;have hne:w.heap.size≠g:=by omega
 have hne2:g≠w.heap.size:=by omega
 have A1:=(Fr.refl [] w).alloc (.cells #[.int .i64 0,.string ⟨#[]⟩,.int .i64 0,.slice none 0 0] 27);obtain⟨⟨c0,c1⟩,z0,z1⟩:=h.two;obtain⟨q0,q0'⟩:=zet s;by_cases he:s.size=0
 ·rw[decide_eq_true he] at q0 q0';have HA:=hid (show Rr g s true ((w.setCell ⟨g,1,none⟩ (.bool true)).alloc (.cells #[.int .i64 0,.string ⟨#[]⟩,.int .i64 0,.slice none 0 0] 27)) from Whole.alloc (Rr.set1 h) _);have FA:=hid (show Fr [g] w ((w.setCell ⟨g,1,none⟩ (.bool true)).alloc (.cells #[.int .i64 0,.string ⟨#[]⟩,.int .i64 0,.slice none 0 0] 27)) from((Fr.refl [g] w).gone _).alloc _);have HN:=hid (show z7y s.data.toList=none from zlr (by simpa using he));clear h hx A1 he;go_enter Tryz.func169,Tryz.ntmps169;go_wp2;refine bodyPost_ret (v:=.agg #[.int .i64 0,.string ⟨#[]⟩,.int .i64 0,.slice none 0 0]) (by simp[results,Tryz.results169,go_sem]) rfl ?_;exact⟨0,⟨#[]⟩,0,true,s.data.toList,rfl,by rw[zev];exact HA.out,FA.out,.inr ⟨HN.out,rfl⟩⟩
 rw[decide_eq_false he] at q0 q0';obtain⟨c,hc,ec⟩:=z5g s 0 (by omega);rw[List.drop_zero,Nat.zero_add] at hc;have X1:=zka s 1 (by omega);obtain⟨rr,hrr⟩:∃rr,rr=s.data.toList.drop 1:=⟨_,rfl⟩;rw[←hrr] at hc X1;have hlen:rr.length≤s.size:=by rw[hrr];simp
 clear hrr;have hsr:(s.extract 1 s.size).size < 4294967281:=by rw[X1,z2q];omega
 have HS:=hid (show Rr g (s.extract 1 s.size) false ((w.setCell ⟨g,0,none⟩ (.string (s.extract 1 s.size))).alloc (.cells #[.int .i64 0,.string ⟨#[]⟩,.int .i64 0,.slice none 0 0] 27)) from Whole.alloc (Rr.set0 h) _);have FS:Fr [g] w ((w.setCell ⟨g,0,none⟩ (.string (s.extract 1 s.size))).alloc (.cells #[.int .i64 0,.string ⟨#[]⟩,.int .i64 0,.slice none 0 0] 27)):=((Fr.refl [g] w).setCell (p:=⟨g,0,none⟩) (.inl (by simp)) _).alloc _;have XS:=hid (hx.go FS);have VS:=hid (z5z w ⟨g,0,none⟩ (.string (s.extract 1 s.size)) 27 zat);have FS:=hid FS;have HE:=hid (show Rr g (s.extract 1 s.size) true (((w.setCell ⟨g,0,none⟩ (.string (s.extract 1 s.size))).setCell ⟨g,1,none⟩ (.bool true)).alloc (.cells #[.int .i64 0,.string ⟨#[]⟩,.int .i64 0,.slice none 0 0] 27)) from Whole.alloc (Rr.set1 (Rr.set0 h)) _);have hss:0 < s.size:=by omega
 have ED:(s.extract 1 s.size).data.toList=rr:=by rw[X1,z30]
 clear h hx A1 X1;by_cases hy:z03 s 0=43
 ·have HD:=hid ((congrArg z7y hc).trans (zaf (ec.trans hy)));have e43:((z03 s 0:Int)==43)=true:=by rw[hy];rfl
  have LA:=hid (zg6 g _ _ hsr HS.out XS.out.mx);clear hy hc ec;go_enter Tryz.func169,Tryz.ntmps169;go_wp2_with fail;refine LA.out.mono ?_;rintro e w1 ⟨a,r,b,rfl,r1,f1,-,-,hcu⟩;have F2:=hid (FS.out.trans f1);have R2:=hid r1;have V2:=hid (VS.out.fr f1 (by simpa using hne));have X2:=hid (XS.out.go f1);have HC:=hid hcu;clear f1 r1 LA hcu;clear c0 c1 z0 z1;obtain⟨a0,a1,a2,a3⟩:=four V2.out;obtain⟨b0,b1,b2,b3⟩:=z0h V2.out;obtain⟨⟨c0,c1⟩,z0,z1⟩:=R2.out.two;have hh:=V2.out.lt;have hgg:=R2.out.lt;go_wp2;refine bodyPost_ret (v:=.agg #[.int .i64 1,.string (toB a),.int .i64 0,.slice none 0 0]) (by simp[results,Tryz.results169,go_sem,a0,a1,a2,a3]) rfl ?_;refine⟨1,toB a,0,b,r,rfl,Rr.set4 R2.out hne2 _ _ _ _,z0g F2.out (Nat.le_refl _) _ _ _ _,?_⟩;rw[HD.out];obtain⟨h1,h2⟩|⟨h1,h2⟩:=HC.out
  ·rw[ED] at h2;exact .inl ⟨by rw[h2];rfl,h1⟩
  ·rw[ED] at h2;exact .inr ⟨by rw[h2];rfl,h1⟩
 by_cases h45:z03 s 0=45
 ·have hy:=h45;have HD:=hid ((congrArg z7y hc).trans (z81 (ec.trans hy)));have e43:((z03 s 0:Int)==43)=false:=by rw[hy];rfl
  have e45:((z03 s 0:Int)==45)=true:=by rw[hy];rfl
  have NU:=hid (z4e w0 g _ _ hsr HS.out XS.out);clear hy hc ec h45;go_enter Tryz.func169,Tryz.ntmps169;go_wp2_with fail;refine NU.out.mono ?_;rintro e w1 ⟨n,r,b,rfl,hn,r1,f1,-,hcu⟩;have F2:=hid (FS.out.trans f1);have R2:=hid r1;have V2:=hid (VS.out.fr f1 (by simpa using hne));have X2:=hid (XS.out.go f1);have HC:=hid hcu;clear f1 r1 NU hcu;clear c0 c1 z0 z1;obtain⟨a0,a1,a2,a3⟩:=four V2.out;obtain⟨b0,b1,b2,b3⟩:=z0h V2.out;obtain⟨⟨c0,c1⟩,z0,z1⟩:=R2.out.two;have hh:=V2.out.lt;have hgg:=R2.out.lt;go_wp2;refine bodyPost_ret (v:=.agg #[.int .i64 2,.string ⟨#[]⟩,.int .i64 n,.slice none 0 0]) (by simp[results,Tryz.results169,go_sem,a0,a1,a2,a3]) rfl ?_;refine⟨2,⟨#[]⟩,n,b,r,rfl,Rr.set4 R2.out hne2 _ _ _ _,z0g F2.out (Nat.le_refl _) _ _ _ _,?_⟩;rw[HD.out];obtain⟨h1,h2⟩|⟨h1,h2⟩:=HC.out
  ·rw[ED] at h2;exact .inl ⟨by rw[h2];rfl,h1⟩
  ·rw[ED] at h2;exact .inr ⟨by rw[h2];rfl,h1⟩
 by_cases h58:z03 s 0=58
 ·have hy:=h58;have HD:=hid ((congrArg z7y hc).trans (z86 (ec.trans hy)));have e43:((z03 s 0:Int)==43)=false:=by rw[hy];rfl
  have e45:((z03 s 0:Int)==45)=false:=by rw[hy];rfl
  have e58:((z03 s 0:Int)==58)=true:=by rw[hy];rfl
  have NU:=hid (z4e w0 g _ _ hsr HS.out XS.out);clear hy hc ec h58;go_enter Tryz.func169,Tryz.ntmps169;go_wp2_with fail;refine NU.out.mono ?_;rintro e w1 ⟨n,r,b,rfl,hn,r1,f1,-,hcu⟩;have F2:=hid (FS.out.trans f1);have R2:=hid r1;have V2:=hid (VS.out.fr f1 (by simpa using hne));have X2:=hid (XS.out.go f1);have HC:=hid hcu;clear f1 r1 NU hcu;clear c0 c1 z0 z1;obtain⟨a0,a1,a2,a3⟩:=four V2.out;obtain⟨b0,b1,b2,b3⟩:=z0h V2.out;obtain⟨⟨c0,c1⟩,z0,z1⟩:=R2.out.two;have hh:=V2.out.lt;have hgg:=R2.out.lt;go_wp2;refine bodyPost_ret (v:=.agg #[.int .i64 3,.string ⟨#[]⟩,.int .i64 n,.slice none 0 0]) (by simp[results,Tryz.results169,go_sem,a0,a1,a2,a3]) rfl ?_;refine⟨3,⟨#[]⟩,n,b,r,rfl,Rr.set4 R2.out hne2 _ _ _ _,z0g F2.out (Nat.le_refl _) _ _ _ _,?_⟩;rw[HD.out];obtain⟨h1,h2⟩|⟨h1,h2⟩:=HC.out
  ·rw[ED] at h2;exact .inl ⟨by rw[h2];rfl,h1⟩
  ·rw[ED] at h2;exact .inr ⟨by rw[h2];rfl,h1⟩
 by_cases h36:z03 s 0=36
 ·have hy:=h36;have HD:=hid ((congrArg z7y hc).trans (z6z (ec.trans hy)));have e43:((z03 s 0:Int)==43)=false:=by rw[hy];rfl
  have e45:((z03 s 0:Int)==45)=false:=by rw[hy];rfl
  have e58:((z03 s 0:Int)==58)=false:=by rw[hy];rfl
  have e36:((z03 s 0:Int)==36)=true:=by rw[hy];rfl
  have NU:=hid (z4e w0 g _ _ hsr HS.out XS.out);clear hy hc ec h36;go_enter Tryz.func169,Tryz.ntmps169;go_wp2_with fail;refine NU.out.mono ?_;rintro e w1 ⟨n,r,b,rfl,hn,r1,f1,hrl,hcu⟩;have F2:=hid (FS.out.trans f1);have R2:=hid r1;have V2:=hid (VS.out.fr f1 (by simpa using hne));have X2:=hid (XS.out.go f1);have HC:=hid hcu;clear f1 r1 NU hcu;by_cases h1:n=-1
  ·subst h1;clear c0 c1 z0 z1;obtain⟨a0,a1,a2,a3⟩:=four V2.out;obtain⟨b0,b1,b2,b3⟩:=z0h V2.out;obtain⟨⟨c0,c1⟩,z0,z1⟩:=R2.out.two;have hh:=V2.out.lt;have hgg:=R2.out.lt;go_wp2;refine bodyPost_ret (v:=.agg #[.int .i64 5,.string ⟨#[]⟩,.int .i64 0,.slice none 0 0]) (by simp[results,Tryz.results169,go_sem,a0,a1,a2,a3]) rfl ?_;refine⟨5,⟨#[]⟩,0,b,r,rfl,Rr.set4 R2.out hne2 _ _ _ _,z0g F2.out (Nat.le_refl _) _ _ _ _,?_⟩;rw[HD.out];obtain⟨h1,h2⟩|⟨h1,h2⟩:=HC.out
   ·rw[ED] at h2;exact .inl ⟨by rw[h2];rfl,h1⟩
   ·rw[ED] at h2;exact .inr ⟨by rw[h2];rfl,h1⟩
  ·have qn:(n==-1)=false:=beq_eq_false_iff_ne.2 h1;have TX:=hid (zsq n b g (toB r) w1 hn (by rw[z2q];omega) R2.out);have H1:=hid h1;clear h1;clear c0 c1 z0 z1;obtain⟨a0,a1,a2,a3⟩:=four V2.out;obtain⟨b0,b1,b2,b3⟩:=z0h V2.out;obtain⟨⟨c0,c1⟩,z0,z1⟩:=R2.out.two;have hh:=V2.out.lt;have hgg:=R2.out.lt;go_wp2_with fail;refine TX.out.mono ?_;rintro e w2 ⟨ta,r3,bz,rfl,r1,f1,hcu⟩;have F3:=hid (F2.out.trans f1);have R3:=hid r1;have V3:=hid (V2.out.fr f1 (by simpa using hne));have HC3:=hid hcu;clear f1 r1 hcu TX a0 a1 a2 a3 b0 b1 b2 b3 hh hgg;clear c0 c1 z0 z1;obtain⟨a0,a1,a2,a3⟩:=four V3.out;obtain⟨b0,b1,b2,b3⟩:=z0h V3.out;obtain⟨⟨c0,c1⟩,z0,z1⟩:=R3.out.two;have hh:=V3.out.lt;have hgg:=R3.out.lt;go_wp2;refine bodyPost_ret (v:=.agg #[.int .i64 4,.string (toB ta),.int .i64 0,.slice none 0 0]) (by simp[results,Tryz.results169,go_sem,a0,a1,a2,a3]) rfl ?_;refine⟨4,toB ta,0,bz,r3,rfl,Rr.set4 R3.out hne2 _ _ _ _,z0g F3.out (Nat.le_refl _) _ _ _ _,?_⟩;rw[HD.out];obtain⟨h1,h2⟩|⟨h1,h2⟩:=HC.out
   ·rw[ED] at h2;obtain⟨h3,h4⟩|⟨h3,h4⟩:=HC3.out
    ·rw[z30] at h3;exact .inl ⟨by rw[h2];show(if n=-1 then _ else _)=_;rw[if_neg H1.out,h3];rfl,h4.trans h1⟩
    ·rw[z30] at h3;exact .inr ⟨by rw[h2];show(if n=-1 then _ else _)=_;rw[if_neg H1.out,h3];rfl,h4⟩
   ·rw[ED] at h2;refine .inr ⟨by rw[h2];rfl,?_⟩;obtain⟨h3,h4⟩|⟨h3,h4⟩:=HC3.out
    ·exact h4.trans h1
    ·exact h4
 have HD:=hid (show z7y s.data.toList=none from by rw[hc];exact z9w (by omega) (by omega) (by omega) (by omega));by_cases h42:z03 s 0=42
 ·have hne43:=hy;clear hy;have hy:=h42;have e43:((z03 s 0:Int)==43)=false:=by rw[hy];rfl
  have e45:((z03 s 0:Int)==45)=false:=by rw[hy];rfl
  have e58:((z03 s 0:Int)==58)=false:=by rw[hy];rfl
  have e36:((z03 s 0:Int)==36)=false:=by rw[hy];rfl
  have e42:((z03 s 0:Int)==42)=true:=by rw[hy];rfl
  have NU:=hid (zy6 w0 g _ _ hsr HS.out XS.out);clear hy hc ec h42 h45 h58 h36 hne43;go_enter Tryz.func169,Tryz.ntmps169;go_wp2_with fail;refine NU.out.mono ?_;rintro e w1 ⟨⟨r,rfl,r1⟩,f1⟩;have F2:=hid (FS.out.trans f1);have R2:=hid r1;have V2:=hid (VS.out.fr f1 (by simpa using hne));have X2:=hid (XS.out.go f1);clear f1 r1 NU;clear c0 c1 z0 z1;obtain⟨a0,a1,a2,a3⟩:=four V2.out;obtain⟨b0,b1,b2,b3⟩:=z0h V2.out;obtain⟨⟨c0,c1⟩,z0,z1⟩:=R2.out.two;have hh:=V2.out.lt;have hgg:=R2.out.lt;go_wp2;refine bodyPost_ret (v:=.agg #[.int .i64 6,.string ⟨#[]⟩,.int .i64 0,.slice none 0 0]) (by simp[results,Tryz.results169,go_sem,a0,a1,a2,a3]) rfl ?_;exact⟨6,⟨#[]⟩,0,true,r,rfl,Rr.set4 R2.out hne2 _ _ _ _,z0g F2.out (Nat.le_refl _) _ _ _ _,.inr ⟨HD.out,rfl⟩⟩
 ·have hne43:=hy;have e43:((z03 s 0:Int)==43)=false:=beq_eq_false_iff_ne.2 (by omega);have e45:((z03 s 0:Int)==45)=false:=beq_eq_false_iff_ne.2 (by omega);have e58:((z03 s 0:Int)==58)=false:=beq_eq_false_iff_ne.2 (by omega);have e36:((z03 s 0:Int)==36)=false:=beq_eq_false_iff_ne.2 (by omega);have e42:((z03 s 0:Int)==42)=false:=beq_eq_false_iff_ne.2 (by omega);obtain⟨⟨d0,d1⟩,y0,y1⟩:=HS.out.two;clear hc ec h42 h45 h58 h36 hne43 hy;go_enter Tryz.func169,Tryz.ntmps169;go_wp2;refine bodyPost_ret (v:=.agg #[.int .i64 0,.string ⟨#[]⟩,.int .i64 0,.slice none 0 0]) (by simp[results,Tryz.results169,go_sem]) rfl ?_;refine⟨0,⟨#[]⟩,0,true,rr,rfl,by rw[←ED,zev];exact HE.out,?_,.inr ⟨HD.out,rfl⟩⟩;exact(((Fr.refl [g] w).setCell (p:=⟨g,0,none⟩) (.inl (by simp)) _).gone _).alloc _
end Go.Proofs.YtmalkppcahogjaaGreatDoor
