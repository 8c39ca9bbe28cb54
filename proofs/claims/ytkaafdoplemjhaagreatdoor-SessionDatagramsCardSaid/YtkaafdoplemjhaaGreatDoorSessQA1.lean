/- The DNS message as plain functions on bytes: what both decoders compute. No program in sight. -/
import Derived.WalkKit
namespace Go.Proofs.Sess
open Go

/-- The byte at a place, 0 behind the end. -/
def byt (s : ByteArray) (i : Nat) : Nat := (s.data.toList.getD i 0).toNat

theorem byt_lt (s : ByteArray) (i : Nat) : byt s i < 256 := (s.data.toList.getD i 0).toNat_lt

def lowN (c : Nat) : Nat := if 65 ≤ c ∧ c ≤ 90 then c + 32 else c
def letN (c : Nat) : Bool := decide ((97 ≤ lowN c ∧ lowN c ≤ 122) ∨ (48 ≤ lowN c ∧ lowN c ≤ 57) ∨ lowN c = 45 ∨ lowN c = 95)
theorem lowN_lt {c : Nat} (h : c < 256) : lowN c < 256 := by unfold lowN; split <;> omega

/-- The bytes from a place on, n of them. -/
def cut (s : ByteArray) (i n : Nat) : List Nat := (List.range n).map fun k => byt s (i + k)

/-- All of n bytes from a place on lie in s and are allowed. -/
def goodL (s : ByteArray) (i n : Nat) : Bool := decide (i + n ≤ s.size) && (cut s i n).all letN

/-- A written name: its bytes in small letters, and the offset behind it. -/
def nameP (s : ByteArray) (at_ lim jumps count : Nat) (out : List Nat) (en : Option Nat) : Option (List Nat × Nat) :=
  if hs : s.size ≤ at_ then none else
  let n := byt s at_
  if n = 0 then some (out, en.getD (at_ + 1))
  else if n ≤ 63 then
    if 24 < count + 1 ∨ 253 < out.length + min out.length 1 + n then none
    else if goodL s (at_ + 1) n then
      nameP s (at_ + 1 + n) lim jumps (count + 1) ((if count = 0 then out else out ++ [46]) ++ (cut s (at_ + 1) n).map lowN) en
    else none
  else if n < 192 then none
  else if s.size ≤ at_ + 1 then none
  else
    let to := n % 64 * 256 + byt s (at_ + 1)
    if ht : lim ≤ to ∨ 24 < jumps + 1 then none
    else nameP s to to (jumps + 1) count out (some (en.getD (at_ + 2)))
termination_by (lim, s.size - at_)
decreasing_by
  · apply Prod.Lex.right
    omega
  · apply Prod.Lex.left
    omega

/-- A number of two bytes. -/
def num2 (s : ByteArray) (i : Nat) : Nat := byt s i * 256 + byt s (i + 1)

/-- A question: its name, and the offset behind it. -/
def questP (s : ByteArray) (at_ : Nat) : Option (List Nat × Nat) :=
  match nameP s at_ at_ 0 0 [] none with
  | none => none
  | some (nm, i) => if s.size < i + 4 then none else if num2 s (i + 2) = 1 then some (nm, i + 4) else none

/-- How many bytes stand ahead of the name in the data of a type; none: there is no name. -/
def skipP (t : Nat) : Option Nat := if t = 15 then some 2 else if t = 2 ∨ t = 5 ∨ t = 12 then some 0 else none

structure RecP where
  name : List Nat
  type : Nat
  data : List Nat

/-- The data of a record of a type, of n bytes. -/
def dataP (s : ByteArray) (t from_ n : Nat) : Option (List Nat) :=
  match skipP t with
  | none => some (cut s from_ n)
  | some k =>
    if s.size < from_ + k then none else
    match nameP s (from_ + k) (from_ + k) 0 0 [] none with
    | none => none
    | some (nm, i) => if i = from_ + n then some (cut s from_ k ++ nm) else none

/-- A record, and the offset behind it. -/
def recP (s : ByteArray) (at_ : Nat) : Option (RecP × Nat) :=
  match questP s at_ with
  | none => none
  | some (nm, i) =>
    if s.size < i + 6 then none else
    let n := num2 s (i + 4)
    if s.size < i + 6 + n then none else
    match dataP s (num2 s (i - 4)) (i + 6) n with
    | none => none
    | some d => some (⟨nm, num2 s (i - 4), d⟩, i + 6 + n)

def questsP (s : ByteArray) : Nat → Nat → List (List Nat) → Option (List (List Nat) × Nat)
  | 0, i, acc => some (acc, i)
  | k + 1, i, acc => match questP s i with
    | none => none
    | some (q, j) => questsP s k j (acc ++ [q])

def recsP (s : ByteArray) : Nat → Nat → List RecP → Option (List RecP × Nat)
  | 0, i, acc => some (acc, i)
  | k + 1, i, acc => match recP s i with
    | none => none
    | some (q, j) => recsP s k j (acc ++ [q])

/-- A message: the names of the questions, the records. -/
def decodeP (s : ByteArray) : Option (List (List Nat) × List RecP) :=
  if s.size < 12 then none
  else if 8 < num2 s 4 ∨ 32 < num2 s 6 + num2 s 8 + num2 s 10 then none
  else match questsP s (num2 s 4) 12 [] with
  | none => none
  | some (qs, i) => match recsP s (num2 s 6 + num2 s 8 + num2 s 10) i [] with
    | none => none
    | some (rs, j) => if j = s.size then some (qs, rs) else none

end Go.Proofs.Sess
