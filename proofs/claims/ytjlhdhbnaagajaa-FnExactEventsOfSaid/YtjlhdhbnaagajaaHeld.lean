import Derived.Test.YtjlhdhbnaagajaaMark
namespace Go.Proofs.Ytjlhdhbnaagajaa.J
open Go.RowKit Go.Proofs.YtjlhdhbnaagajaaW.PrintWords Go.Proofs.YtjlhdhbnaagajaaW.PrintLast Go.Proofs.YtjlhdhbnaagajaaW.PrintMore
set_option linter.unusedVariables false
set_option linter.unusedSimpArgs false
set_option maxRecDepth 100000 in
set_option maxHeartbeats 800000 in
theorem heldLegS (A : Option Addr) (c : Nat) (l : List Leg) (k : Int) (w : World) (hC : Kd.C kLeg w A l.length l) (hlc : l.length ≤ c) (hk0 : 0 ≤ k) (hk1 : k + cntLegS l ≤ 4611686018427387904) (hM : MarkedLegS l k) :
    Calls Try.prog 75 #[.slice A l.length c, .int .i64 k] w fun e w' => e = .returned (.int .i64 (k + cntLegS l)) ∧ Below w.heap.size w w' := by
  unfold cntLegS at hk1 ⊢
  have HC := Aside0.mk hC; have HB := Aside0.mk (Below.refl w.heap.size w); have HM := Aside0.mk hM; clear hC hM
  go_enter Try.func75, Try.ntmps75
  go_wp2
  go_loopg [1, 5] l.length (fun n v1 v5 w' => ∃ (i : Nat) (K : Int), v5 = .int .i64 i ∧ v1 = .int .i64 K ∧ 0 ≤ K ∧ K + 4 * (l.length - i : Nat) ≤ 4611686018427387904 ∧ Aside0 (K = k + 4 * i ∧ n + i = l.length ∧ Below w.heap.size w w'))
  case atStart => exact ⟨0, k, rfl, rfl, hk0, by omega, ⟨by omega, by omega, HB.out⟩⟩
  case round =>
    clear HB
    obtain ⟨i, K, rfl, rfl, hK0, hK1, ⟨HE, HN, HB⟩⟩ := hrel
    replace HE := Aside0.mk HE; replace HN := Aside0.mk HN; replace HB := Aside0.mk HB
    by_cases hi : i < l.length
    · have hl1 : 4 ≤ 4 * (l.length - i : Nat) := by omega
      have hm := HM.out i hi
      obtain ⟨ad, e0, x0⟩ := nthLeg HC.out i hi
      subst e0
      have hx := hm.eq
      rw [show k + 4 * (i : Int) = K from HE.out.symm] at hx
      rw [hx] at x0
      obtain ⟨x1, x2, x3, x4⟩ := x0 _ HB.out
      clear x0 hx hm
      go_wp2
      go_roundg (gk - 1)
      case measure => have := HN.out; omega
      case rel => have hE := HE.out; exact ⟨i + 1, K + 1 + 1 + 1 + 1, by go_num, rfl, by omega, by omega, ⟨by omega, by have := HN.out; omega, HB.out⟩⟩
    · obtain rfl : i = l.length := by have := HN.out; omega
      have hE := HE.out
      go_wp2
      go_ret
      exact ⟨by rw [hE]; simp, HB.out⟩
def cntEvent (x : Event) : Nat := 3 + cntLegS x.contract.legs
def cntEventS (l : List Event) : Nat := (l.map cntEvent).sum
def MarkedEvent (x : Event) (k : Int) : Prop := x.vote = ((k) % 3 == 0) ∧ x.contract.id = k + 1 ∧ MarkedLegS x.contract.legs (k + 1 + 1) ∧ x.outcome = k + 1 + 1 + ↑(cntLegS x.contract.legs)
theorem MarkedEvent.eq {x : Event} {k : Int} (h : MarkedEvent x k) : ∃ Y : List Leg, x = ⟨((k) % 3 == 0), ⟨k + 1, Y⟩, k + 1 + 1 + ↑(cntLegS Y)⟩ ∧ MarkedLegS Y (k + 1 + 1) ∧ x.contract.legs = Y := by
  refine ⟨x.contract.legs, ?_, h.2.2.1, rfl⟩
  simp only [Event.eq_iff, Contract.eq_iff]
  simp only [MarkedEvent] at h
  simp [h.1, h.2]
def MarkedEventS (l : List Event) (k : Int) : Prop := ∀ i, i < l.length → MarkedEvent (nthEvent_ l i) (k + cntEventS (l.take i))
set_option maxRecDepth 100000 in
set_option maxHeartbeats 800000 in
theorem heldEventS (A : Option Addr) (c : Nat) (l : List Event) (k : Int) (w : World) (hC : Kd.C kEvent w A l.length l) (hlc : l.length ≤ c) (hll : l.length ≤ 1099511627776) (hk0 : 0 ≤ k) (hk1 : k + cntEventS l ≤ 4611686018427387904) (hM : MarkedEventS l k) :
    Calls Try.prog 38 #[.slice A l.length c, .int .i64 k] w fun e w' => e = .returned (.int .i64 (k + cntEventS l)) ∧ Below w.heap.size w w' := by
  have HC := Aside0.mk hC; have HB := Aside0.mk (Below.refl w.heap.size w); have HM := Aside0.mk hM; clear hC hM
  go_enter Try.func38, Try.ntmps38
  go_wp2
  go_loopg [1, 5] l.length (fun n v1 v5 w' => ∃ (i : Nat) (K : Int), v5 = .int .i64 i ∧ v1 = .int .i64 K ∧ 0 ≤ K ∧ Aside0 (K = k + cntEventS (l.take i) ∧ n + i = l.length ∧ Below w.heap.size w w'))
  case atStart => exact ⟨0, k, rfl, rfl, hk0, ⟨by simp [cntEventS], by omega, HB.out⟩⟩
  case round =>
    clear HB
    obtain ⟨i, K, rfl, rfl, hK0, ⟨HE, HN, HB⟩⟩ := hrel
    replace HE := Aside0.mk HE; replace HN := Aside0.mk HN; replace HB := Aside0.mk HB
    by_cases hi : i < l.length
    · have hs := sum_take_succ cntEvent l zEvent i hi; have hle := sum_take_le cntEvent l (i + 1)
      have HS : Aside0 (cntEventS (l.take (i + 1)) = cntEventS (l.take i) + cntEvent (nthEvent_ l i)) := ⟨hs⟩
      have hK1 : K + cntEvent (nthEvent_ l i) ≤ 4611686018427387904 := by have := HE.out; have := HS.out; unfold cntEventS at *; omega
      clear hs hle
      have hm := HM.out i hi
      obtain ⟨ad, A0, c0, e0, x0, l0, g0⟩ := nthEvent HC.out i hi
      subst e0
      rw [show k + ↑(cntEventS (l.take i)) = K from HE.out.symm] at hm
      obtain ⟨Y, hx, hY, hYe⟩ := hm.eq
      rw [hYe] at l0 g0
      rw [hx] at x0 hK1
      simp only [cntEvent] at hK1 x0
      have X0 := Aside0.mk x0; have G0 := Aside0.mk g0; have HY := Aside0.mk hY; have HX := Aside0.mk hx; clear x0 hx hm g0 hY hYe
      obtain ⟨x1, x2, x3, x4⟩ := X0.out _ HB.out
      go_wp2_with (first | (go_at_call 75; refine (heldLegS _ _ Y _ _ (G0.out _ HB.out) l0 (by omega) (by omega) HY.out).mono ?_; rintro e w1 ⟨rfl, hb⟩; have HB1 : Aside0 (Below w.heap.size w w1) := ⟨below_step HB.out hb⟩; clear HB x1 x2 x3 x4; have HB := HB1; clear HB1 hb; obtain ⟨x1, x2, x3, x4⟩ := X0.out _ HB.out))
      go_roundg (gk - 1)
      case measure => have := HN.out; omega
      case rel => have hE := HE.out; have hS := HS.out; rw [HX.out] at hS; simp only [cntEvent] at hS; exact ⟨i + 1, K + 1 + 1 + ↑(cntLegS Y) + 1, by go_num, rfl, by omega, ⟨by omega, by have := HN.out; omega, HB.out⟩⟩
    · obtain rfl : i = l.length := by have := HN.out; omega
      have hE := HE.out
      go_wp2
      go_ret
      exact ⟨by rw [hE]; simp, HB.out⟩
end Go.Proofs.Ytjlhdhbnaagajaa.J
