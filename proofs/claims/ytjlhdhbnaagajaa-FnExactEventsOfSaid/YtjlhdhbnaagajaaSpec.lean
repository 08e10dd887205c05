/- What the document says, as plain functions. -/
import Derived.Test.YtjlhdhbnaagajaaData
namespace Go.Proofs.Ytjlhdhbnaagajaa.J
open Go.RowKit Go.Proofs.YtjlhdhbnaagajaaW.PrintWords Go.Proofs.YtjlhdhbnaagajaaW.PrintLast Go.Proofs.YtjlhdhbnaagajaaW.PrintMore
set_option linter.unusedVariables false
set_option linter.unusedSimpArgs false

/-! What the document says, as plain functions. Bytes are whole numbers from 0 to 255. -/
def inB (v lo hi : Int) : Bool := decide (lo ≤ v) && decide (v ≤ hi)
def legOk (l : Leg) : Bool := inB l.shard 0 2 && (inB l.account 0 5 && (inB l.asset 0 2 && inB l.amount (-1000000000000) 1000000000000))
def legFault (l : Leg) : Int := if legOk l = true then (if l.amount = 0 then 1 else 0) else 3
def samePlace (a b : Leg) : Bool := a.shard == b.shard && (a.account == b.account && a.asset == b.asset)
/-- Has one of the first i legs the place of leg i? -/
def takenAt (l : List Leg) (i : Nat) : Bool := (List.range i).any fun k => samePlace (nthLeg_ l k) (nthLeg_ l i)
def legsFrom (l : List Leg) : Nat → Nat → Int
  | 0, _ => 0
  | n + 1, i => if legFault (nthLeg_ l i) ≠ 0 then legFault (nthLeg_ l i) else if takenAt l i = true then 7 else legsFrom l n (i + 1)
def amountOf (a : Int) (l : Leg) : Int := if l.asset = a then l.amount else 0
def sumOf (a : Int) (l : List Leg) : Int := (l.map (amountOf a)).sum
def legsOf (l : List Leg) : Int := if legsFrom l l.length 0 ≠ 0 then legsFrom l l.length 0 else if sumOf 0 l = 0 ∧ sumOf 1 l = 0 ∧ sumOf 2 l = 0 then 0 else 1
def isId (n : Int) : Bool := inB n 1 1000000000
def contractFault (c : Contract) : Int := if isId c.id = false then 3 else if c.legs.length < 2 then 2 else if 8 < c.legs.length then 2 else legsOf c.legs
def checkOf (b : List Int) : Int := b.foldl (fun h x => (h * 257 + x + 1) % 65521) 1
theorem checkOf_snoc (b : List Int) (x : Int) : checkOf (b ++ [x]) = (checkOf b * 257 + x + 1) % 65521 := by simp [checkOf, List.foldl_append]
theorem check_bd (b : List Int) : ∀ h : Int, 0 ≤ h ∧ h < 65521 → 0 ≤ b.foldl (fun h x => (h * 257 + x + 1) % 65521) h ∧ b.foldl (fun h x => (h * 257 + x + 1) % 65521) h < 65521 := by
  induction b with
  | nil => exact fun h hh => hh
  | cons x r ih => exact fun h _ => ih ((h * 257 + x + 1) % 65521) ⟨by omega, by omega⟩
theorem checkOf_bd (b : List Int) : 0 ≤ checkOf b ∧ checkOf b < 65521 := check_bd b 1 (by omega)
/-- The bytes of a list are bytes. -/
def Bytes (b : List Int) : Prop := ∀ i, 0 ≤ nthu8_ b i ∧ nthu8_ b i < 256
theorem take_succ_u8 (b : List Int) (i : Nat) (h : i < b.length) : b.take (i + 1) = b.take i ++ [nthu8_ b i] := by
  rw [List.take_succ_eq_append_getElem h]; simp [nthu8_, h]
/-- A number out of bytes, the highest first. -/
def number (b : List Int) : Int := b.foldl (fun n x => n * 256 + x) 0
theorem number_snoc (b : List Int) (x : Int) : number (b ++ [x]) = number b * 256 + x := by simp [number, List.foldl_append]
/-- The eight bytes' number, as it is told: with a sign. -/
def signed (n : Int) : Int := if n < 9223372036854775808 then n else n - 18446744073709551616

end Go.Proofs.Ytjlhdhbnaagajaa.J
