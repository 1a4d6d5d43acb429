/- Plain words: natural numbers as texts of decimal digits, and rational numbers as pairs of them. No program in sight. -/
import Derived.Lib.ItoaNum
set_option linter.all false
section
namespace Go.Proofs.YtmkanjcehhbmlaaGreatDoor.Sp
def isDig (c : UInt8) : Bool := decide (48 ≤ c.toNat) && decide (c.toNat ≤ 57)
def isNatL (l : List UInt8) : Bool := !l.isEmpty && decide (l.length ≤ 300) && l.all isDig && (decide (l.length = 1) || l.headD 0 != 48)
def isNat (s : ByteArray) : Bool := isNatL s.data.toList
def nvalL (l : List UInt8) : Nat := l.foldl (fun n c => 10 * n + (c.toNat - 48)) 0
def nval (s : ByteArray) : Nat := nvalL s.data.toList
abbrev decL (n : Nat) : List UInt8 := Lib.decDigits n
def dec (n : Nat) : ByteArray := ⟨(decL n).toArray⟩
def e0 : ByteArray := ⟨#[]⟩
/-- A number as a text, or ErrLimit. -/
def lim (n : Nat) : ByteArray × Int := if n < 10 ^ 300 then (dec n, 0) else (e0, 2)
def natOp (a b : ByteArray) (f : Nat → Nat → ByteArray × Int) : ByteArray × Int := if isNat a && isNat b then f (nval a) (nval b) else (e0, 1)
/-- The three fields of a valid number. -/
def enc (q : Rat) : Bool × ByteArray × ByteArray := (decide (q.num < 0), dec q.num.natAbs, dec q.den)
def rval (neg : Bool) (num den : ByteArray) : Rat := mkRat (if neg then -(nval num : Int) else (nval num : Int)) (nval den)
/-- Valid: natural numbers in lowest terms, the sign of 0 being plus. -/
def vld (neg : Bool) (num den : ByteArray) : Bool := isNat num && isNat den && decide (nval den ≠ 0) && decide (Nat.gcd (nval num) (nval den) = 1) && !(neg && decide (nval num = 0))
def long (num den : ByteArray) : Bool := decide (140 < num.size) || decide (140 < den.size)
abbrev RE := Bool × ByteArray × ByteArray × Int
def err (e : Int) : RE := (false, e0, e0, e)
def okR (q : Rat) : RE := ((enc q).1, (enc q).2.1, (enc q).2.2, 0)
def ratOp (zero : Bool) (f : Rat → Rat → Rat) (an : Bool) (ax ay : ByteArray) (bn : Bool) (bx by_ : ByteArray) : RE :=
  if !vld an ax ay || !vld bn bx by_ then err 1
  else if zero && decide (nval bx = 0) then err 15
  else if long ax ay || long bx by_ then err 2
  else okR (f (rval an ax ay) (rval bn bx by_))
end Go.Proofs.YtmkanjcehhbmlaaGreatDoor.Sp
end
