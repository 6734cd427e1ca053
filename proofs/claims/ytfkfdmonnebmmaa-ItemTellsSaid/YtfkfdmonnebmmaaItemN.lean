/- Items, plain: their bytes, and what bytes tell. No program in sight. -/
import Derived.Test.YtfkfdmonnebmmaaItemL
set_option linter.unusedVariables false
set_option linter.unusedSimpArgs false
namespace Go.Proofs.Ytfkfdmonnebmmaa

def byteN (n : Nat) : UInt8 := UInt8.ofNat n
def encText (s : ByteArray) : List UInt8 := byteN s.size :: s.data.toList
def encNum (n : Nat) : List UInt8 := [byteN (n / 16777216), byteN (n / 65536), byteN (n / 256), byteN n]
def encPair (p : ByteArray × ByteArray) : List UInt8 := encText p.1 ++ encText p.2
def encScore (p : Int × ByteArray) : List UInt8 := encNum (p.1 + 999999999).toNat ++ encText p.2
/-- the bytes of an item that is right. -/
def encItm (x : Itm) : List UInt8 :=
  byteN x.kind.toNat :: (if x.kind = 1 then x.text.data.toList else byteN (many x) :: (x.list.flatMap encText ++ (x.pairs.flatMap encPair ++ x.scores.flatMap encScore)))

/-- some bytes from the beginning, and the rest. -/
def takeB (n : Nat) (s : ByteArray) : Option (ByteArray × ByteArray) := if s.size < n then none else some (s.extract 0 n, s.extract n s.size)
def oneB (s : ByteArray) : Option (Nat × ByteArray) := if s.size < 1 then none else some (byteAt s 0, s.extract 1 s.size)
def num4B (s : ByteArray) : Option (Nat × ByteArray) :=
  if s.size < 4 then none else some (((byteAt s 0 * 256 + byteAt s 1) * 256 + byteAt s 2) * 256 + byteAt s 3, s.extract 4 s.size)
def toldB (s : ByteArray) : Option (ByteArray × ByteArray) := (oneB s).bind fun p => takeB p.1 p.2

/-- an item of nothing yet. -/
def newI (k : Int) : Itm := ⟨k, ByteArray.empty, [], [], []⟩

/-- an element more. -/
def readEl (x : Itm) (s : ByteArray) : Option (Itm × ByteArray) :=
  if x.kind = 4 then (toldB s).bind fun p => (toldB p.2).map fun q => ({ x with pairs := x.pairs ++ [(p.1, q.1)] }, q.2)
  else if x.kind = 5 then (num4B s).bind fun p => (toldB p.2).map fun q => ({ x with scores := x.scores ++ [((p.1 : Int) - 999999999, q.1)] }, q.2)
  else (toldB s).map fun p => ({ x with list := x.list ++ [p.1] }, p.2)
def readEls : Nat → Itm → ByteArray → Option (Itm × ByteArray)
  | 0, x, s => some (x, s)
  | n + 1, x, s => (readEl x s).bind fun p => readEls n p.1 p.2
/-- the item that bytes tell, right or not. -/
def decItm (s : ByteArray) : Option Itm :=
  (oneB s).bind fun p =>
    if p.1 = 1 then some { newI 1 with text := p.2 }
    else if 2 ≤ p.1 ∧ p.1 ≤ 5 then (oneB p.2).bind fun q => (readEls q.1 (newI p.1) q.2).bind fun r => if r.2.size = 0 then some r.1 else none
    else none
def decCode (s : ByteArray) : Int := match decItm s with
  | none => 1
  | some x => checkItm x
def decAns (s : ByteArray) : Itm := match decItm s with
  | none => newI 0
  | some x => if checkItm x = 0 then x else newI 0
end Go.Proofs.Ytfkfdmonnebmmaa
