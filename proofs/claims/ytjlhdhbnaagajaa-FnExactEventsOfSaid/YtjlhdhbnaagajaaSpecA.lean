/- The reference's small functions. -/
import Derived.Test.YtjlhdhbnaagajaaSpec
import Derived.Test.YtjlhdhbnaagajaaSz
namespace Go.Proofs.Ytjlhdhbnaagajaa.J
open Go.RowKit Go.Proofs.YtjlhdhbnaagajaaW.PrintWords Go.Proofs.YtjlhdhbnaagajaaW.PrintLast Go.Proofs.YtjlhdhbnaagajaaW.PrintMore
set_option linter.unusedVariables false
set_option linter.unusedSimpArgs false

theorem infoi64 : (Try.prog.info? 2).map (fun i => (i.zero, i.size, i.bytes)) = some (some (.int .i64 0), 1, 8) := by kernel_rfl

set_option maxRecDepth 100000 in
theorem spec_l1In (v lo hi : Int) (w : World) : Calls Try.prog 41 #[.int .i64 v, .int .i64 lo, .int .i64 hi] w fun e w' => e = .returned (.bool (inB v lo hi)) ∧ w = w' := by
  unfold inB
  by_cases h : lo ≤ v
  · have h1 : decide (lo ≤ v) = true := by simpa using h
    go_enter Try.func41, Try.ntmps41
    go_wp2
    go_ret
    exact ⟨by simp [h1], rfl⟩
  · have h1 : decide (lo ≤ v) = false := by simpa using h
    go_enter Try.func41, Try.ntmps41
    go_wp2
    go_ret
    exact ⟨by simp [h1], rfl⟩
set_option maxRecDepth 100000 in
theorem spec_l1Id (v : Int) (w : World) : Calls Try.prog 133 #[.int .i64 v] w fun e w' => e = .returned (.bool (isId v)) ∧ w = w' := by
  unfold isId
  go_enter Try.func133, Try.ntmps133
  go_wp2_with (first | (go_at_call 41; refine (spec_l1In _ _ _ _).mono ?_; rintro e w' ⟨rfl, rfl⟩))
  go_ret
  exact ⟨rfl, rfl⟩
set_option maxRecDepth 100000 in
set_option maxHeartbeats 800000 in
theorem spec_LegFault (l : Leg) (w : World) : Calls Try.prog 150 #[.agg #[.int .i64 l.shard, .int .i64 l.account, .int .i64 l.asset, .int .i64 l.amount]] w fun e w' => e = .returned (.int .i64 (legFault l)) ∧ Below w.heap.size w w' := by
  have hu := Try.underlying151
  have HB := Aside0.mk (Below.refl w.heap.size w)
  cases h1 : inB l.shard 0 2
  · have HF : Aside0 (legFault l = 3) := ⟨by simp [legFault, legOk, h1]⟩
    go_enter Try.func150, Try.ntmps150
    go_wp2_with (first | (go_at_call 41; refine (spec_l1In _ _ _ _).mono ?_; rintro e w' ⟨rfl, rfl⟩))
    go_ret
    exact ⟨ret_int HF.out.symm, by (repeat (first | (with_reducible exact HB.out) | (with_reducible refine below_alloc ?_ _) | (with_reducible refine below_drew1 ?_) | (with_reducible refine pw_below_drewN ?_ _)))⟩
  cases h2 : inB l.account 0 5
  · have HF : Aside0 (legFault l = 3) := ⟨by simp [legFault, legOk, h1, h2]⟩
    go_enter Try.func150, Try.ntmps150
    go_wp2_with (first | (go_at_call 41; refine (spec_l1In _ _ _ _).mono ?_; rintro e w' ⟨rfl, rfl⟩))
    go_ret
    exact ⟨ret_int HF.out.symm, by (repeat (first | (with_reducible exact HB.out) | (with_reducible refine below_alloc ?_ _) | (with_reducible refine below_drew1 ?_) | (with_reducible refine pw_below_drewN ?_ _)))⟩
  cases h3 : inB l.asset 0 2
  · have HF : Aside0 (legFault l = 3) := ⟨by simp [legFault, legOk, h1, h2, h3]⟩
    go_enter Try.func150, Try.ntmps150
    go_wp2_with (first | (go_at_call 41; refine (spec_l1In _ _ _ _).mono ?_; rintro e w' ⟨rfl, rfl⟩))
    go_ret
    exact ⟨ret_int HF.out.symm, by (repeat (first | (with_reducible exact HB.out) | (with_reducible refine below_alloc ?_ _) | (with_reducible refine below_drew1 ?_) | (with_reducible refine pw_below_drewN ?_ _)))⟩
  cases h4 : inB l.amount (-1000000000000) 1000000000000
  · have HF : Aside0 (legFault l = 3) := ⟨by simp [legFault, legOk, h1, h2, h3, h4]⟩
    go_enter Try.func150, Try.ntmps150
    go_wp2_with (first | (go_at_call 41; refine (spec_l1In _ _ _ _).mono ?_; rintro e w' ⟨rfl, rfl⟩))
    go_ret
    exact ⟨ret_int HF.out.symm, by (repeat (first | (with_reducible exact HB.out) | (with_reducible refine below_alloc ?_ _) | (with_reducible refine below_drew1 ?_) | (with_reducible refine pw_below_drewN ?_ _)))⟩
  by_cases h5 : l.amount = 0
  · have HF : Aside0 (legFault l = 1) := ⟨by unfold legFault legOk; rw [h1, h2, h3, h4]; simp [h5]⟩
    have h6 : (l.amount == 0) = true := by simpa using h5
    clear h5
    go_enter Try.func150, Try.ntmps150
    go_wp2_with (first | (go_at_call 41; refine (spec_l1In _ _ _ _).mono ?_; rintro e w' ⟨rfl, rfl⟩))
    go_ret
    exact ⟨ret_int HF.out.symm, by (repeat (first | (with_reducible exact HB.out) | (with_reducible refine below_alloc ?_ _) | (with_reducible refine below_drew1 ?_) | (with_reducible refine pw_below_drewN ?_ _)))⟩
  · have HF : Aside0 (legFault l = 0) := ⟨by unfold legFault legOk; rw [h1, h2, h3, h4]; simp [h5]⟩
    have h6 : (l.amount == 0) = false := by simpa using h5
    clear h5
    go_enter Try.func150, Try.ntmps150
    go_wp2_with (first | (go_at_call 41; refine (spec_l1In _ _ _ _).mono ?_; rintro e w' ⟨rfl, rfl⟩))
    go_ret
    exact ⟨ret_int HF.out.symm, by (repeat (first | (with_reducible exact HB.out) | (with_reducible refine below_alloc ?_ _) | (with_reducible refine below_drew1 ?_) | (with_reducible refine pw_below_drewN ?_ _)))⟩
set_option maxRecDepth 100000 in
set_option maxHeartbeats 800000 in
theorem spec_LogFault (x : Log) (cx : List Value) (w : World) (hx : kLog.K w x cx) (h0 : x.synced.length ≤ 1099511627776) (h1 : x.loose.length ≤ 1099511627776) : Calls Try.prog 25 #[.agg cx.toArray] w fun e w' => e = .returned (.int .i64 (if x.synced.length + x.loose.length > 6000 then 2 else 0)) ∧ Below w.heap.size w w' := by
  obtain ⟨A0, c0, A1, c1, rfl, q0, g0, q1, g1⟩ := kLog_open hx
  have hu := Try.underlying34
  have HB := Aside0.mk (Below.refl w.heap.size w)
  clear g0 g1 hx
  by_cases h : x.synced.length + x.loose.length > 6000
  · have h2 : decide ((6000 : Int) < (x.synced.length : Int) + (x.loose.length : Int)) = true := by simp; omega
    rw [if_pos h]
    go_enter Try.func25, Try.ntmps25
    go_wp2
    go_ret
    exact ⟨rfl, by (repeat (first | (with_reducible exact HB.out) | (with_reducible refine below_alloc ?_ _) | (with_reducible refine below_drew1 ?_) | (with_reducible refine pw_below_drewN ?_ _)))⟩
  · have h2 : decide ((6000 : Int) < (x.synced.length : Int) + (x.loose.length : Int)) = false := by simp; omega
    rw [if_neg h]
    go_enter Try.func25, Try.ntmps25
    go_wp2
    go_ret
    exact ⟨rfl, by (repeat (first | (with_reducible exact HB.out) | (with_reducible refine below_alloc ?_ _) | (with_reducible refine below_drew1 ?_) | (with_reducible refine pw_below_drewN ?_ _)))⟩
set_option maxRecDepth 100000 in
set_option maxHeartbeats 800000 in
theorem spec_CheckOf (A : Option Addr) (c : Nat) (l : List Int) (w : World) (hC : Kd.C (Kd.int .u8) w A l.length l) (hlc : l.length ≤ c) (hl : l.length ≤ 1099511627776) (hb : Bytes l) : Calls Try.prog 103 #[.slice A l.length c] w fun e w' => e = .returned (.int .i64 (checkOf l)) ∧ w = w' := by
  have HC := Aside0.mk hC; have HY := Aside0.mk hb; clear hC hb
  go_enter Try.func103, Try.ntmps103
  go_wp2
  go_loopg [3, 4] l.length (fun n v3 v4 w' => ∃ (i : Nat) (h : Int), v4 = .int .i64 i ∧ v3 = .int .i64 h ∧ 0 ≤ h ∧ h < 65521 ∧ Aside0 (n + i = l.length ∧ h = checkOf (l.take i) ∧ w = w'))
  case atStart => exact ⟨0, 1, rfl, rfl, by omega, by omega, ⟨by omega, by simp [checkOf], rfl⟩⟩
  case round =>
    obtain ⟨i, h, rfl, rfl, h0, h1, ⟨HN, HH, rfl⟩⟩ := hrel
    replace HN := Aside0.mk HN; replace HH := Aside0.mk HH
    by_cases hi : i < l.length
    · obtain ⟨ad, e0, x0⟩ := nthu8 HC.out i hi
      subst e0
      have x1 := x0 _ (Below.refl _ _)
      clear x0
      have b0 := (HY.out i).1; have b1 := (HY.out i).2
      go_wp2
      go_roundg (gk - 1)
      case measure => have := HN.out; omega
      case rel => exact ⟨i + 1, _, by go_num, rfl, by omega, by omega, ⟨by have := HN.out; omega, by rw [take_succ_u8 l i hi, checkOf_snoc, HH.out], rfl⟩⟩
    · obtain rfl : i = l.length := by have := HN.out; omega
      go_wp2
      go_ret
      exact ⟨ret_int (by rw [HH.out, List.take_of_length_le (Nat.le_refl _)]), rfl⟩

end Go.Proofs.Ytjlhdhbnaagajaa.J
