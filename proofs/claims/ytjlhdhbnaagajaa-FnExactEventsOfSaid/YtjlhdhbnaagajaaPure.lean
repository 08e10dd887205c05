/- The journal's bytes, as plain functions. -/
import Derived.Test.YtjlhdhbnaagajaaCut
namespace Go.Proofs.Ytjlhdhbnaagajaa.J
open Go.RowKit Go.Proofs.YtjlhdhbnaagajaaW.PrintWords Go.Proofs.YtjlhdhbnaagajaaW.PrintLast Go.Proofs.YtjlhdhbnaagajaaW.PrintMore
set_option linter.unusedVariables false
set_option linter.unusedSimpArgs false

/-! The journal's bytes, as the document reads them: plain functions. -/
def eventFault (e : Event) : Int :=
  if e.vote = true then (if contractFault e.contract ≠ 0 then contractFault e.contract else if e.outcome ≠ 0 then 1 else 0)
  else if isId e.contract.id = false then 3 else if inB e.outcome 1 2 = false then 3 else if 0 < e.contract.legs.length then 1 else 0
/-- A contract's bytes: how many there may be; the i-th leg; the contract. -/
def conOk (l : List Int) : Bool := decide (8 ≤ l.length) && (decide ((l.length - 8) % 11 = 0) && decide (l.length ≤ 96))
def legOf (l : List Int) (i : Nat) : Leg := ⟨nthu8_ l (8 + 11 * i), nthu8_ l (8 + 11 * i + 1), nthu8_ l (8 + 11 * i + 2), signed (number (mid l (8 + 11 * i + 3) (8 + 11 * i + 11)))⟩
def legsTo (l : List Int) (n : Nat) : List Leg := (List.range n).map (legOf l)
def conOf (l : List Int) : Contract := ⟨signed (number (mid l 0 8)), legsTo l ((l.length - 8) / 11)⟩
def unconOk (l : List Int) : Bool := conOk l && decide (contractFault (conOf l) = 0)
theorem legsTo_succ (l : List Int) (n : Nat) : legsTo l (n + 1) = legsTo l n ++ [legOf l n] := by simp [legsTo, List.range_succ]
theorem legsTo_len (l : List Int) (n : Nat) : (legsTo l n).length = n := by simp [legsTo]
/-- An event's bytes. -/
def evOf (l : List Int) : Event := if nthu8_ l 0 = 1 then ⟨true, conOf (l.drop 1), 0⟩ else ⟨false, ⟨signed (number (mid l 1 9)), []⟩, nthu8_ l 9⟩
def evOk (l : List Int) : Bool := decide (l.length ≠ 0) && (if nthu8_ l 0 = 1 then unconOk (l.drop 1) else decide (nthu8_ l 0 = 2) && (decide (l.length = 10) && decide (eventFault (evOf l) = 0)))
/-- The record that begins at place i of the bytes: its length, and whether it is one. -/
def recLen (l : List Int) (i : Nat) : Nat := (nthu8_ l i * 256 + nthu8_ l (i + 1)).toNat
def recFits (l : List Int) (i : Nat) : Bool := decide (i + 4 < l.length) && (decide (1 ≤ recLen l i) && (decide (recLen l i ≤ 500) && decide (i + 4 + recLen l i ≤ l.length)))
def recOf (l : List Int) (i : Nat) : List Int := mid l (i + 4) (i + 4 + recLen l i)
def recOk (l : List Int) (i : Nat) : Bool := recFits l i && decide (checkOf (recOf l i) = nthu8_ l (i + 2) * 256 + nthu8_ l (i + 3))
/-- The records from place i on, and how many bytes are read. -/
def recsFrom (l : List Int) : Nat → Nat → List (List Int) × Nat
  | 0, i => ([], i)
  | n + 1, i => if recOk l i = true then (recOf l i :: (recsFrom l n (i + 4 + recLen l i)).1, (recsFrom l n (i + 4 + recLen l i)).2) else ([], i)
def recs (l : List Int) : List (List Int) × Nat := recsFrom l l.length 0
/-- What a log holds: a code and the events. -/
def eventsOf (l : List Int) : Int × List Event :=
  if l.length > 6000 then (2, []) else if (recs l).1.all evOk = false then (5, []) else if (recs l).2 < l.length then (5, []) else if (recs l).1.length > 60 then (2, []) else (0, (recs l).1.map evOf)
theorem recsFrom_no (l : List Int) (n i : Nat) (h : recOk l i = false) : recsFrom l n i = ([], i) := by cases n <;> simp [recsFrom, h]
theorem recsFrom_yes (l : List Int) (n i : Nat) (h : recOk l i = true) : recsFrom l (n + 1) i = (recOf l i :: (recsFrom l n (i + 4 + recLen l i)).1, (recsFrom l n (i + 4 + recLen l i)).2) := by simp [recsFrom, h]
theorem recOk_fits {l : List Int} {i : Nat} (h : recOk l i = true) : i + 4 < l.length ∧ 1 ≤ recLen l i ∧ recLen l i ≤ 500 ∧ i + 4 + recLen l i ≤ l.length := by
  simp only [recOk, recFits, Bool.and_eq_true, decide_eq_true_eq] at h; omega
theorem recsFrom_used (l : List Int) : ∀ n i, i ≤ l.length → (recsFrom l n i).2 ≤ l.length ∧ 5 * (recsFrom l n i).1.length + i ≤ (recsFrom l n i).2 := by
  intro n
  induction n with
  | zero => intro i hi; simp [recsFrom]; omega
  | succ n ih =>
    intro i hi
    cases h : recOk l i
    · rw [recsFrom_no l _ i h]; simp; omega
    · have := recOk_fits h
      have := ih (i + 4 + recLen l i) (by omega)
      rw [recsFrom_yes l n i h]
      simp only [List.length_cons]
      omega

end Go.Proofs.Ytjlhdhbnaagajaa.J
