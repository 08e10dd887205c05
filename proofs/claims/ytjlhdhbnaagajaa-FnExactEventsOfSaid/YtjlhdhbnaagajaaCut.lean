/- Cuts of bytes; the reference's numbers. -/
import Derived.Test.YtjlhdhbnaagajaaSpecB
import Derived.Test.YtjlhdhbnaagajaaTo
namespace Go.Proofs.Ytjlhdhbnaagajaa.J
open Go.RowKit Go.Proofs.YtjlhdhbnaagajaaW.PrintWords Go.Proofs.YtjlhdhbnaagajaaW.PrintLast Go.Proofs.YtjlhdhbnaagajaaW.PrintMore
set_option linter.unusedVariables false
set_option linter.unusedSimpArgs false

/-! Cuts of bytes, and the reference's functions on numbers. -/
def mid (l : List Int) (i j : Nat) : List Int := (l.take j).drop i
theorem mid_len (l : List Int) (i j : Nat) (h : j ≤ l.length) : (mid l i j).length = j - i := by simp [mid]; omega
theorem mid_get (l : List Int) (i j k : Nat) (h : i + k < j) : nthu8_ (mid l i j) k = nthu8_ l (i + k) := by
  simp only [nthu8_, mid, List.getD_eq_getElem?_getD, List.getElem?_drop, List.getElem?_take, h, if_true]
theorem Bytes.mid {l : List Int} (h : Bytes l) (i j : Nat) : Bytes (mid l i j) := by
  intro k
  by_cases hk : i + k < j
  · rw [mid_get l i j k hk]; exact h _
  · simp only [nthu8_, J.mid, List.getD_eq_getElem?_getD, List.getElem?_drop, List.getElem?_take, hk, if_false]; simp
theorem cutMid (A : Option Addr) (c : Nat) (l : List Int) (a b : Int) (i j : Nat) (ha : a = i) (hb : b = j) (hij : i ≤ j) (hj : j ≤ l.length) (hc : l.length ≤ c) :
    ∃ A', (∀ W : World, (Instr.slice 23 (.slice A l.length c) (some (.int .i64 a)) (some (.int .i64 b)) none).run Try.prog W = .ok (.slice A' (mid l i j).length (c - i)) W) ∧ (∀ w, Kd.C (Kd.int .u8) w A l.length l → Kd.C (Kd.int .u8) w A' (mid l i j).length (mid l i j)) ∧ (mid l i j).length ≤ c - i := by
  subst ha hb
  obtain ⟨i0, hi0, _, hsz, _⟩ := info_parts infou8
  obtain ⟨A', h1, h2, h3⟩ := print_mid_of (P := Try.prog) (Value.int .u8) 0 23 5 .i64 .i64 Try.underlying23 hi0 hsz A c l (i : Int) (j : Int) (by omega) (by omega) (by omega) hc
  simp only [Int.toNat_natCast] at h1 h2 h3
  exact ⟨A', h1, fun w h => Kd.C_of_reads (h1 := fun _ => rfl) (h2 w (Kd.reads_of_C h)), h3⟩
theorem cutTo (A : Option Addr) (c : Nat) (l : List Int) (b : Int) (j : Nat) (hb : b = j) (hj : j ≤ l.length) (hc : l.length ≤ c) :
    (∀ W : World, (Instr.slice 23 (.slice A l.length c) none (some (.int .i64 b)) none).run Try.prog W = .ok (.slice A (mid l 0 j).length c) W) ∧ (∀ w, Kd.C (Kd.int .u8) w A l.length l → Kd.C (Kd.int .u8) w A (mid l 0 j).length (mid l 0 j)) ∧ (mid l 0 j).length ≤ c := by
  subst hb
  obtain ⟨i0, hi0, _, hsz, _⟩ := info_parts infou8
  obtain ⟨h1, h2, h3⟩ := print_take_of (P := Try.prog) (Value.int .u8) 0 23 5 .i64 Try.underlying23 hi0 hsz A c l (j : Int) (by omega) (by omega) hc
  simp only [Int.toNat_natCast] at h1 h2 h3
  exact ⟨h1, fun w h => Kd.C_of_reads (h1 := fun _ => rfl) (h2 w (Kd.reads_of_C h)), h3⟩
theorem cutFrom (A : Option Addr) (c : Nat) (l : List Int) (a : Int) (i : Nat) (ha : a = i) (hj : i ≤ l.length) (hc : l.length ≤ c) :
    ∃ A', (∀ W : World, (Instr.slice 23 (.slice A l.length c) (some (.int .i64 a)) none none).run Try.prog W = .ok (.slice A' (l.drop i).length (c - i)) W) ∧ (∀ w, Kd.C (Kd.int .u8) w A l.length l → Kd.C (Kd.int .u8) w A' (l.drop i).length (l.drop i)) ∧ (l.drop i).length ≤ c - i := by
  subst ha
  obtain ⟨i0, hi0, _, hsz, _⟩ := info_parts infou8
  obtain ⟨A', h1, h2, h3⟩ := print_drop_of (P := Try.prog) (Value.int .u8) 0 23 5 .i64 Try.underlying23 hi0 hsz A c l (i : Int) (by omega) (by omega) hc
  simp only [Int.toNat_natCast] at h1 h2 h3
  exact ⟨A', h1, fun w h => Kd.C_of_reads (h1 := fun _ => rfl) (h2 w (Kd.reads_of_C h)), h3⟩
/-- How great a number out of so many bytes can be. -/
theorem number_bd (l : List Int) (h : Bytes l) : ∀ i, i ≤ l.length → 0 ≤ number (l.take i) ∧ number (l.take i) < 256 ^ i := by
  intro i
  induction i with
  | zero => intro _; simp [number]
  | succ i ih =>
    intro hi
    obtain ⟨h0, h1⟩ := ih (by omega)
    have hb := h i
    rw [take_succ_u8 l i (by omega), number_snoc, Int.pow_succ]
    omega
theorem number_bd8 (l : List Int) (h : Bytes l) (i : Nat) (hi : i < 8) (hl : l.length = 8) : 0 ≤ number (l.take i) ∧ number (l.take i) < 72057594037927936 := by
  obtain ⟨h0, h1⟩ := number_bd l h i (by omega)
  refine ⟨h0, Int.lt_of_lt_of_le h1 ?_⟩
  have : i = 0 ∨ i = 1 ∨ i = 2 ∨ i = 3 ∨ i = 4 ∨ i = 5 ∨ i = 6 ∨ i = 7 := by omega
  rcases this with rfl | rfl | rfl | rfl | rfl | rfl | rfl | rfl <;> decide
theorem signed_wrap (n : Int) (h0 : 0 ≤ n) (h1 : n < 18446744073709551616) : IntKind.i64.wrap n = signed n := by
  unfold signed
  split <;> simp [IntKind.wrap, IntKind.bits, IntKind.signed] <;> omega
set_option maxRecDepth 100000 in
set_option maxHeartbeats 800000 in
theorem spec_l3Number (A : Option Addr) (c : Nat) (l : List Int) (w : World) (hC : Kd.C (Kd.int .u8) w A l.length l) (hl : l.length = 8) (hb : Bytes l) : Calls Try.prog 105 #[.slice A l.length c] w fun e w' => e = .returned (.int .i64 (signed (number l))) ∧ w = w' := by
  have HC := Aside0.mk hC; have HY := Aside0.mk hb; clear hC hb
  go_enter Try.func105, Try.ntmps105
  go_wp2
  go_loopg [3, 4] l.length (fun n v3 v4 w' => ∃ (i : Nat) (h : Int), v4 = .int .i64 i ∧ v3 = .int .u64 h ∧ i ≤ 8 ∧ Aside0 (n + i = l.length ∧ h = number (l.take i) ∧ w = w'))
  case atStart => exact ⟨0, 0, rfl, rfl, by omega, ⟨by omega, by simp [number], rfl⟩⟩
  case round =>
    obtain ⟨i, h, rfl, rfl, h8, ⟨HN, HH, rfl⟩⟩ := hrel
    replace HN := Aside0.mk HN; replace HH := Aside0.mk HH
    by_cases hi : i < 8
    · obtain ⟨ad, e0, x0⟩ := nthu8 HC.out i (by omega)
      subst e0
      have x1 := x0 _ (Below.refl _ _)
      clear x0
      have b0 := (HY.out i).1; have b1 := (HY.out i).2
      have hbd := number_bd8 l HY.out i hi hl
      rw [← HH.out] at hbd
      obtain ⟨d0, d1⟩ := hbd
      go_wp2
      go_roundg (gk - 1)
      case measure => have := HN.out; omega
      case rel => exact ⟨i + 1, _, by go_num, rfl, by omega, ⟨by have := HN.out; omega, by rw [take_succ_u8 l i (by omega), number_snoc, HH.out], rfl⟩⟩
    · obtain rfl : i = 8 := by omega
      have hbd := number_bd l HY.out 8 (by omega)
      rw [← HH.out] at hbd
      obtain ⟨d0, d1⟩ := hbd
      have hs : IntKind.i64.wrap h = signed h := signed_wrap h d0 d1
      go_wp2
      go_ret
      exact ⟨ret_int (by rw [HH.out, List.take_of_length_le (by omega)]), rfl⟩

end Go.Proofs.Ytjlhdhbnaagajaa.J
