/-
  Checkdigit: what the functions compute, in plain Lean (no program in sight).
-/
import Derived.Lib.Bytealg
namespace Go.Proofs.Ytcfgfeamcckmjaa.Chk
set_option linter.unusedVariables false

/-- The value of a digit. -/
def dg (b : UInt8) : Int := (b.toNat : Int) - 48
def isDig (b : UInt8) : Bool := decide (48 ≤ b.toNat) && decide (b.toNat ≤ 57)
def vals (s : ByteArray) : List Int := s.data.toList.map dg
/-- A fold that knows the place, from i on. -/
def foldi {β : Type} (f : Nat → β → Int → β) : Nat → β → List Int → β
  | _, b, [] => b
  | i, b, d :: l => foldi f (i + 1) (f i b d) l
theorem foldi_append {β : Type} (f : Nat → β → Int → β) : ∀ (l m : List Int) (i : Nat) (b : β), foldi f i b (l ++ m) = foldi f (i + l.length) (foldi f i b l) m
  | [], m, i, b => by simp [foldi]
  | d :: l, m, i, b => by
    rw [List.cons_append, foldi, foldi, foldi_append f l m, List.length_cons]
    congr 1; omega
theorem foldi_snoc {β : Type} (f : Nat → β → Int → β) (l : List Int) (b : β) (k : Nat) (h : k < l.length) : foldi f 0 b (l.take (k + 1)) = f k (foldi f 0 b (l.take k)) l[k] := by
  rw [List.take_succ_eq_append_getElem h, foldi_append]
  have : (l.take k).length = k := by rw [List.length_take]; omega
  simp [foldi, this]

def gs1F (i : Nat) (a d : Int) : Int := a + (3 - (i : Int) % 2 * 2) * d
def luhnF (i : Nat) (a d : Int) : Int := a + (if i % 2 = 0 then d * 2 / 10 + d * 2 % 10 else d)
def isbnF (i : Nat) (a d : Int) : Int := a + ((i : Int) + 2) * d
/-- The product of the dihedral group. -/
def dih (a b : Int) : Int := if a < 5 then (if b < 5 then (a + b) % 5 else 5 + (a + b - 5) % 5) else (if b < 5 then 5 + (a - b + 5) % 5 else (a - b + 5) % 5)
def permL : List Int := [1, 5, 7, 6, 2, 8, 3, 0, 9, 4]
def perm (d : Int) : Int := permL.getD d.toNat 0
def permN : Nat → Int → Int
  | 0, d => d
  | n + 1, d => permN n (perm d)
theorem permN_succ (n : Nat) (d : Int) : permN (n + 1) d = perm (permN n d) := by
  induction n generalizing d with
  | zero => rfl
  | succ n ih => rw [permN, ih, permN]
def verF (i : Nat) (c d : Int) : Int := dih c (permN (i % 8 + 1) d)
def dinv (c : Int) : Int := if c < 5 then (5 - c) % 5 else c
def dammT : List Int := [0, 3, 1, 7, 5, 9, 8, 6, 4, 2, 7, 0, 9, 2, 1, 5, 4, 8, 6, 3, 4, 2, 0, 6, 8, 7, 1, 3, 5, 9, 1, 7, 5, 0, 9, 8, 3, 4, 2, 6, 6, 1, 2, 3, 0, 4, 5, 9, 7, 8, 3, 6, 7, 4, 2, 0, 9, 5, 8, 1, 5, 8, 6, 9, 7, 2, 0, 1, 3, 4, 8, 9, 4, 5, 3, 6, 2, 0, 1, 7, 9, 4, 3, 8, 6, 1, 7, 2, 0, 5, 2, 5, 8, 1, 4, 3, 6, 7, 9, 0]
def dammF (i : Nat) (c d : Int) : Int := dammT.getD (10 * c + d).toNat 0
def i97F (i : Nat) (n d : Int) : Int := (10 * n + d) % 97
def i11F (i : Nat) (p d : Int) : Int := 2 * (p + d) % 11

def alpha10 : ByteArray := ⟨#[48, 49, 50, 51, 52, 53, 54, 55, 56, 57]⟩
def alpha10X : ByteArray := ⟨#[48, 49, 50, 51, 52, 53, 54, 55, 56, 57, 88]⟩
def alpha39 : ByteArray := ⟨#[48, 49, 50, 51, 52, 53, 54, 55, 56, 57, 65, 66, 67, 68, 69, 70, 71, 72, 73, 74, 75, 76, 77, 78, 79, 80, 81, 82, 83, 84, 85, 86, 87, 88, 89, 90, 45, 46, 32, 36, 47, 43, 37]⟩
/-- The value of a character of Code 39, or -1. -/
def v39 (b : UInt8) : Int := Lib.indexByte alpha39.data.toList b

/-- The value of the check digits. -/
def gs1V (l : List Int) : Int := (10 - foldi gs1F 0 0 l.reverse % 10) % 10
def luhnV (l : List Int) : Int := (10 - foldi luhnF 0 0 l.reverse % 10) % 10
def isbnV (l : List Int) : Int := (11 - foldi isbnF 0 0 l.reverse % 11) % 11
def verV (l : List Int) : Int := dinv (foldi verF 0 0 l.reverse)
def dammV (l : List Int) : Int := foldi dammF 0 0 l
def i97V (l : List Int) : Int := 98 - 100 * foldi i97F 0 0 l % 97
def i11V (l : List Int) : Int := (12 - foldi i11F 0 0 l) % 11
def c39V (l : List Int) : Int := foldi (fun _ a d => a + d) 0 0 l % 43

/-- A value from 0 to 10 as a character. -/
def chr (v : Int) : UInt8 := if v = 10 then 88 else (v + 48).toNat.toUInt8
def chr39 (v : Int) : UInt8 := alpha39.data.toList.getD v.toNat 0
/-- The check characters of valid data. -/
def checkL (k : Int) (s : ByteArray) : List UInt8 :=
  if k = 1 then [chr (gs1V (vals s))] else if k = 2 then [chr (luhnV (vals s))] else if k = 3 then [chr (isbnV (vals s))] else if k = 4 then [chr (verV (vals s))]
  else if k = 5 then [chr (dammV (vals s))] else if k = 6 then [chr (i97V (vals s) / 10), chr (i97V (vals s) % 10)]
  else if k = 7 then [chr39 (c39V (s.data.toList.map v39))] else [chr (i11V (vals s))]
def checkS (k : Int) (s : ByteArray) : ByteArray := ⟨(checkL k s).toArray⟩
def alphaS (k : Int) : ByteArray := if k = 7 then alpha39 else alpha10
def alphaXS (k : Int) : ByteArray := if k = 7 then alpha39 else if k = 3 ∨ k = 8 then alpha10X else alpha10
def sizeS (k : Int) : Nat := if k = 6 then 2 else 1
def withinB (s c : ByteArray) : Bool := s.data.toList.all fun b => c.data.toList.contains b
/-- Does a system not have strings of a length? -/
def wrongB (k : Int) (n : Int) : Bool := decide (n ≤ sizeS k) || (k == 3 && n != 10)
/-- What Compute returns. -/
def computeS (k : Int) (s : ByteArray) : ByteArray × Int :=
  if ¬ (1 ≤ k ∧ k ≤ 8) then (ByteArray.empty, 1) else if s.size = 0 then (ByteArray.empty, 5) else if 4096 < s.size then (ByteArray.empty, 4)
  else if withinB s (alphaS k) = false then (ByteArray.empty, 6) else if k = 3 ∧ s.size ≠ 9 then (ByteArray.empty, 7) else (checkS k s, 0)
/-- What Verify returns. -/
def verifyS (k : Int) (s : ByteArray) : Int :=
  if ¬ (1 ≤ k ∧ k ≤ 8) then 1 else if 4096 < s.size then 4 else if wrongB k s.size = true then 7
  else if withinB (s.extract 0 (s.size - sizeS k)) (alphaS k) = false ∨ withinB (s.extract (s.size - sizeS k) s.size) (alphaXS k) = false then 6
  else if checkS k (s.extract 0 (s.size - sizeS k)) ≠ s.extract (s.size - sizeS k) s.size then 8 else 0

end Go.Proofs.Ytcfgfeamcckmjaa.Chk
