/- The program's bytes, as plain functions. -/
import Derived.Test.YtjlhdhbnaagajaaPure
namespace Go.Proofs.Ytjlhdhbnaagajaa.J
open Go.RowKit Go.Proofs.YtjlhdhbnaagajaaW.PrintWords Go.Proofs.YtjlhdhbnaagajaaW.PrintLast Go.Proofs.YtjlhdhbnaagajaaW.PrintMore
set_option linter.unusedVariables false
set_option linter.unusedSimpArgs false

/-! What the program writes: a number's bytes, a contract's, an event's; reading and writing again gives the same bytes. -/
def packNum (n : Int) : List Int := (List.range 8).map fun i => n / 256 ^ (7 - i) % 256
theorem packNum_len (n : Int) : (packNum n).length = 8 := by simp [packNum]
theorem packNum_eq (n : Int) : packNum n = [n / 72057594037927936 % 256, n / 281474976710656 % 256, n / 1099511627776 % 256, n / 4294967296 % 256, n / 16777216 % 256, n / 65536 % 256, n / 256 % 256, n % 256] := by
  simp [packNum, List.range_succ]
theorem packNum_at (n : Int) (i : Nat) (h : i < 8) : packNum n = (packNum n).take i ++ (n / 256 ^ (7 - i) % 256) :: (packNum n).drop (i + 1) := by
  have : (packNum n)[i]'(by simpa [packNum] using h) = n / 256 ^ (7 - i) % 256 := by simp [packNum]
  rw [← this]; simp
theorem pack_signed (b : List Int) (hb : Bytes b) (h8 : b.length = 8) : packNum (signed (number b)) = b := by
  obtain ⟨a0, a1, a2, a3, a4, a5, a6, a7, rfl⟩ : ∃ a0 a1 a2 a3 a4 a5 a6 a7, b = [a0, a1, a2, a3, a4, a5, a6, a7] := by
    match b, h8 with
    | [a0, a1, a2, a3, a4, a5, a6, a7], _ => exact ⟨_, _, _, _, _, _, _, _, rfl⟩
  have h0 := hb 0; have h1 := hb 1; have h2 := hb 2; have h3 := hb 3; have h4 := hb 4; have h5 := hb 5; have h6 := hb 6; have h7 := hb 7
  simp only [nthu8_, List.getD_eq_getElem?_getD, List.getElem?_cons_zero, List.getElem?_cons_succ, Option.getD_some] at h0 h1 h2 h3 h4 h5 h6 h7
  have hn : number [a0, a1, a2, a3, a4, a5, a6, a7] = a0 * 72057594037927936 + a1 * 281474976710656 + a2 * 1099511627776 + a3 * 4294967296 + a4 * 16777216 + a5 * 65536 + a6 * 256 + a7 := by simp [number]; omega
  rw [packNum_eq, hn]
  unfold signed
  split <;> (simp only [List.cons.injEq, and_true]; refine ⟨?_, ?_, ?_, ?_, ?_, ?_, ?_, ?_⟩ <;> omega)
def packLeg (l : Leg) : List Int := [l.shard % 256, l.account % 256, l.asset % 256] ++ packNum l.amount
theorem packLeg_len (l : Leg) : (packLeg l).length = 11 := by simp [packLeg, packNum_len]
def packLegs : List Leg → List Int
  | [] => []
  | x :: r => packLeg x ++ packLegs r
theorem packLegs_snoc (l : List Leg) (x : Leg) : packLegs (l ++ [x]) = packLegs l ++ packLeg x := by
  induction l with
  | nil => simp [packLegs]
  | cons a r ih => simp [packLegs, ih]
theorem packLegs_len (l : List Leg) : (packLegs l).length = 11 * l.length := by
  induction l with
  | nil => rfl
  | cons a r ih => simp [packLegs, ih, packLeg_len]; omega
def packCon (c : Contract) : List Int := packNum c.id ++ packLegs c.legs
theorem packCon_len (c : Contract) : (packCon c).length = 8 + 11 * c.legs.length := by simp [packCon, packNum_len, packLegs_len]
def packEv (e : Event) : List Int := if e.vote = true then 1 :: packCon e.contract else 2 :: (packNum e.contract.id ++ [e.outcome % 256])
theorem take_mid (l : List Int) (i j : Nat) (h : i ≤ j) : l.take j = l.take i ++ mid l i j := by
  have := List.take_append_drop i (l.take j)
  rw [List.take_take, Nat.min_eq_left h] at this
  exact this.symm
theorem mid_one (l : List Int) (i : Nat) (h : i < l.length) : mid l i (i + 1) = [nthu8_ l i] := by
  rw [mid, take_succ_u8 l i h, List.drop_append]
  have : (l.take i).length = i := by simp; omega
  rw [this, Nat.sub_self, List.drop_of_length_le (by omega)]; rfl
theorem mid_mid (l : List Int) (i j k : Nat) (h : i ≤ j) (hk : j ≤ k) (hl : j ≤ l.length) : mid l i k = mid l i j ++ mid l j k := by
  rw [mid, take_mid l j k hk, List.drop_append]
  have : (l.take j).length = j := by simp; omega
  rw [this, show i - j = 0 by omega]; rfl
theorem byte_mod {l : List Int} (h : Bytes l) (i : Nat) : nthu8_ l i % 256 = nthu8_ l i := by have := h i; omega
theorem packLeg_of (l : List Int) (hb : Bytes l) (k : Nat) (h : 8 + 11 * k + 11 ≤ l.length) : packLeg (legOf l k) = mid l (8 + 11 * k) (8 + 11 * k + 11) := by
  rw [packLeg, legOf]
  simp only [byte_mod hb]
  rw [pack_signed _ (hb.mid _ _) (by rw [mid_len _ _ _ (by omega)]; omega)]
  rw [mid_mid l (8 + 11 * k) (8 + 11 * k + 1) _ (by omega) (by omega) (by omega), mid_mid l (8 + 11 * k + 1) (8 + 11 * k + 2) _ (by omega) (by omega) (by omega), mid_mid l (8 + 11 * k + 2) (8 + 11 * k + 3) _ (by omega) (by omega) (by omega), mid_one l _ (by omega), mid_one l _ (by omega), mid_one l _ (by omega)]
  rfl
theorem packLegs_of (l : List Int) (hb : Bytes l) : ∀ k, 8 + 11 * k ≤ l.length → packNum (signed (number (mid l 0 8))) ++ packLegs (legsTo l k) = l.take (8 + 11 * k) := by
  intro k
  induction k with
  | zero =>
    intro h
    rw [pack_signed _ (hb.mid _ _) (by rw [mid_len _ _ _ (by omega)])]
    simp [legsTo, packLegs, mid]
  | succ k ih =>
    intro h
    rw [legsTo_succ, packLegs_snoc, ← List.append_assoc, ih (by omega), packLeg_of l hb k (by omega)]
    exact (take_mid l _ _ (by omega)).symm
theorem packCon_of (l : List Int) (hb : Bytes l) (h : conOk l = true) : packCon (conOf l) = l := by
  simp only [conOk, Bool.and_eq_true, decide_eq_true_eq] at h
  rw [packCon, conOf]
  show packNum _ ++ packLegs (legsTo l _) = l
  rw [packLegs_of l hb _ (by omega)]
  exact List.take_of_length_le (by omega)
theorem packEv_of (l : List Int) (hb : Bytes l) (h : evOk l = true) : packEv (evOf l) = l := by
  simp only [evOk, Bool.and_eq_true, decide_eq_true_eq] at h
  obtain ⟨h0, h1⟩ := h
  have hl1 : l.take 1 = [nthu8_ l 0] := by have := take_succ_u8 l 0 (by omega); simpa using this
  by_cases hv : nthu8_ l 0 = 1
  · rw [if_pos hv] at h1
    have hc : conOk (l.drop 1) = true := by simp only [unconOk, Bool.and_eq_true] at h1; exact h1.1
    have hyd : Bytes (l.drop 1) := fun i => by have := hb (i + 1); simpa [nthu8_, List.getD_eq_getElem?_getD, List.getElem?_drop, Nat.add_comm] using this
    rw [packEv, evOf, if_pos hv]
    show (1 : Int) :: packCon (conOf (l.drop 1)) = l
    rw [packCon_of _ hyd hc]
    conv => rhs; rw [← List.take_append_drop 1 l, hl1, hv]
    rfl
  · rw [if_neg hv] at h1
    simp only [Bool.and_eq_true, decide_eq_true_eq] at h1
    obtain ⟨h2, h10, _⟩ := h1
    rw [packEv, evOf, if_neg hv]
    show (2 : Int) :: (packNum (signed (number (mid l 1 9))) ++ [nthu8_ l 9 % 256]) = l
    rw [byte_mod hb, pack_signed _ (hb.mid _ _) (by rw [mid_len _ _ _ (by omega)])]
    have e1 := take_mid l 1 9 (by omega)
    have e2 := take_mid l 9 10 (by omega)
    rw [List.take_of_length_le (by omega), e1, hl1, h2, mid_one l 9 (by omega)] at e2
    exact Eq.trans rfl e2.symm
theorem nth_drop (l : List Int) (i k : Nat) : nthu8_ (l.drop i) k = nthu8_ l (i + k) := by simp [nthu8_, List.getD_eq_getElem?_getD, List.getElem?_drop]
theorem mid_drop (l : List Int) (i a b : Nat) : mid (l.drop i) a b = mid l (i + a) (i + b) := by simp only [mid, List.take_drop, List.drop_drop]
theorem recLen_drop (l : List Int) (i : Nat) : recLen (l.drop i) 0 = recLen l i := by simp [recLen, nth_drop]
theorem recOf_drop (l : List Int) (i : Nat) : recOf (l.drop i) 0 = recOf l i := by simp [recOf, recLen_drop, mid_drop, Nat.add_assoc]
theorem recOk_drop (l : List Int) (i : Nat) : recOk (l.drop i) 0 = recOk l i := by
  have e1 : decide (0 + 4 < (l.drop i).length) = decide (i + 4 < l.length) := by rw [List.length_drop]; congr 1; exact propext (by omega)
  by_cases hi : i + 4 < l.length
  · have e2 : decide (0 + 4 + recLen l i ≤ (l.drop i).length) = decide (i + 4 + recLen l i ≤ l.length) := by rw [List.length_drop]; congr 1; exact propext (by omega)
    unfold recOk recFits
    rw [e1, recLen_drop, e2, recOf_drop]
    simp only [nth_drop, Nat.zero_add]
  · have n1 : decide (i + 4 < l.length) = false := decide_eq_false hi
    unfold recOk recFits
    rw [e1, n1]
    rfl
/-- Two bytes of a number. -/
def pairOf (n : Int) : List Int := [n / 256 % 256, n % 256]
theorem pair_iff (l : List Int) (hb : Bytes l) (i : Nat) (hi : i + 2 ≤ l.length) (h : Int) (h0 : 0 ≤ h) (h1 : h < 65521) : (mid l i (i + 2) = pairOf h) ↔ h = nthu8_ l i * 256 + nthu8_ l (i + 1) := by
  rw [mid_mid l i (i + 1) (i + 2) (by omega) (by omega) (by omega), mid_one l i (by omega), mid_one l (i + 1) (by omega)]
  have b0 := hb i; have b1 := hb (i + 1)
  simp only [pairOf, List.cons_append, List.nil_append, List.cons.injEq, and_true]
  omega

end Go.Proofs.Ytjlhdhbnaagajaa.J
