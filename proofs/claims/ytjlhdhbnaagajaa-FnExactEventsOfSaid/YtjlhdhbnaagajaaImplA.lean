/- The program's small functions. -/
import Derived.Test.YtjlhdhbnaagajaaSpecA
namespace Go.Proofs.Ytjlhdhbnaagajaa.J
open Go.RowKit Go.Proofs.YtjlhdhbnaagajaaW.PrintWords Go.Proofs.YtjlhdhbnaagajaaW.PrintLast Go.Proofs.YtjlhdhbnaagajaaW.PrintMore
set_option linter.unusedVariables false
set_option linter.unusedSimpArgs false

set_option maxRecDepth 100000 in
theorem impl_within (v lo hi : Int) (w : World) : Calls Try.prog 78 #[.int .i64 v, .int .i64 lo, .int .i64 hi] w fun e w' => e = .returned (.bool (inB v lo hi)) ∧ w = w' := by
  unfold inB
  by_cases h : lo ≤ v
  · have h1 : decide (lo ≤ v) = true := by simpa using h
    go_enter Try.func78, Try.ntmps78
    go_wp2
    go_ret
    exact ⟨by simp [h1], rfl⟩
  · have h1 : decide (lo ≤ v) = false := by simpa using h
    go_enter Try.func78, Try.ntmps78
    go_wp2
    go_ret
    exact ⟨by simp [h1], rfl⟩
set_option maxRecDepth 100000 in
theorem impl_isId (v : Int) (w : World) : Calls Try.prog 112 #[.int .i64 v] w fun e w' => e = .returned (.bool (isId v)) ∧ w = w' := by
  unfold isId
  go_enter Try.func112, Try.ntmps112
  go_wp2_with (first | (go_at_call 78; refine (impl_within _ _ _ _).mono ?_; rintro e w' ⟨rfl, rfl⟩))
  go_ret
  exact ⟨rfl, rfl⟩
set_option maxRecDepth 100000 in
theorem impl_isShard (v : Int) (w : World) : Calls Try.prog 151 #[.int .i64 v] w fun e w' => e = .returned (.bool (inB v 0 2)) ∧ w = w' := by
  go_enter Try.func151, Try.ntmps151
  go_wp2_with (first | (go_at_call 78; refine (impl_within _ _ _ _).mono ?_; rintro e w' ⟨rfl, rfl⟩))
  go_ret
  exact ⟨rfl, rfl⟩
set_option maxRecDepth 100000 in
theorem impl_isAsset (v : Int) (w : World) : Calls Try.prog 159 #[.int .i64 v] w fun e w' => e = .returned (.bool (inB v 0 2)) ∧ w = w' := by
  go_enter Try.func159, Try.ntmps159
  go_wp2_with (first | (go_at_call 78; refine (impl_within _ _ _ _).mono ?_; rintro e w' ⟨rfl, rfl⟩))
  go_ret
  exact ⟨rfl, rfl⟩
set_option maxRecDepth 100000 in
theorem impl_isPlace (a b : Int) (w : World) : Calls Try.prog 152 #[.int .i64 a, .int .i64 b] w fun e w' => e = .returned (.bool (inB a 0 5 && inB b 0 2)) ∧ w = w' := by
  cases h1 : inB a 0 5
  · go_enter Try.func152, Try.ntmps152
    go_wp2_with (first | (go_at_call 78; refine (impl_within _ _ _ _).mono ?_; rintro e w' ⟨rfl, rfl⟩))
    go_ret
    exact ⟨rfl, rfl⟩
  · go_enter Try.func152, Try.ntmps152
    go_wp2_with (first | (go_at_call 78; refine (impl_within _ _ _ _).mono ?_; rintro e w' ⟨rfl, rfl⟩) | (go_at_call 159; refine (impl_isAsset _ _).mono ?_; rintro e w' ⟨rfl, rfl⟩))
    go_ret
    exact ⟨rfl, rfl⟩
set_option maxRecDepth 100000 in
theorem impl_isOutcome (v : Int) (w : World) : Calls Try.prog 113 #[.int .i64 v] w fun e w' => e = .returned (.bool (inB v 1 2)) ∧ w = w' := by
  have HV : Aside0 (inB v 1 2 = (v == 1 || v == 2)) := ⟨by rw [Bool.eq_iff_iff]; simp [inB]; omega⟩
  cases h1 : (v == 1)
  · cases h2 : (v == 2)
    · rw [HV.out, h1, h2]
      go_enter Try.func113, Try.ntmps113
      go_wp2
      go_ret
      exact ⟨rfl, rfl⟩
    · rw [HV.out, h1, h2]
      go_enter Try.func113, Try.ntmps113
      go_wp2
      go_ret
      exact ⟨rfl, rfl⟩
  · rw [HV.out, h1]
    go_enter Try.func113, Try.ntmps113
    go_wp2
    go_ret
    exact ⟨rfl, rfl⟩
set_option maxRecDepth 100000 in
theorem impl_size_u8 (A : Option Addr) (n c : Nat) (w : World) : Calls Try.prog 31 #[.slice A n c] w fun e w' => e = .returned (.int .i64 n) ∧ w = w' := by
  go_enter Try.func31, Try.ntmps31
  go_wp2
  go_ret
  exact ⟨rfl, rfl⟩
set_option maxRecDepth 100000 in
theorem impl_size_Leg (A : Option Addr) (n c : Nat) (w : World) : Calls Try.prog 136 #[.slice A n c] w fun e w' => e = .returned (.int .i64 n) ∧ w = w' := by
  go_enter Try.func136, Try.ntmps136
  go_wp2
  go_ret
  exact ⟨rfl, rfl⟩
set_option maxRecDepth 100000 in
set_option maxHeartbeats 1600000 in
theorem impl_LegFault (l : Leg) (w : World) : Calls Try.prog 137 #[.agg #[.int .i64 l.shard, .int .i64 l.account, .int .i64 l.asset, .int .i64 l.amount]] w fun e w' => e = .returned (.int .i64 (legFault l)) ∧ Below w.heap.size w w' := by
  have hu := Try.underlying151
  have HB := Aside0.mk (Below.refl w.heap.size w)
  cases h1 : inB l.shard 0 2
  · have HF : Aside0 (legFault l = 3) := ⟨by simp [legFault, legOk, h1]⟩
    go_enter Try.func137, Try.ntmps137
    go_wp2_with (first | (go_at_call 151; refine (impl_isShard _ _).mono ?_; rintro e w' ⟨rfl, rfl⟩))
    go_ret
    exact ⟨ret_int HF.out.symm, by (repeat (first | (with_reducible exact HB.out) | (with_reducible refine below_alloc ?_ _) | (with_reducible refine below_drew1 ?_) | (with_reducible refine pw_below_drewN ?_ _)))⟩
  cases h2 : (inB l.account 0 5 && inB l.asset 0 2)
  · have HF : Aside0 (legFault l = 3) := ⟨by rw [legFault, legOk, ← Bool.and_assoc (inB l.account 0 5), h2]; simp⟩
    go_enter Try.func137, Try.ntmps137
    go_wp2_with (first | (go_at_call 151; refine (impl_isShard _ _).mono ?_; rintro e w' ⟨rfl, rfl⟩) | (go_at_call 152; refine (impl_isPlace _ _ _).mono ?_; rintro e w' ⟨rfl, rfl⟩; rw [h2]))
    go_ret
    exact ⟨ret_int HF.out.symm, by (repeat (first | (with_reducible exact HB.out) | (with_reducible refine below_alloc ?_ _) | (with_reducible refine below_drew1 ?_) | (with_reducible refine pw_below_drewN ?_ _)))⟩
  cases h4 : inB l.amount (-1000000000000) 1000000000000
  · have HF : Aside0 (legFault l = 3) := ⟨by rw [legFault, legOk, ← Bool.and_assoc (inB l.account 0 5), h4]; simp⟩
    go_enter Try.func137, Try.ntmps137
    go_wp2_with (first | (go_at_call 151; refine (impl_isShard _ _).mono ?_; rintro e w' ⟨rfl, rfl⟩) | (go_at_call 152; refine (impl_isPlace _ _ _).mono ?_; rintro e w' ⟨rfl, rfl⟩; rw [h2]) | (go_at_call 78; refine (impl_within _ _ _ _).mono ?_; rintro e w' ⟨rfl, rfl⟩))
    go_ret
    exact ⟨ret_int HF.out.symm, by (repeat (first | (with_reducible exact HB.out) | (with_reducible refine below_alloc ?_ _) | (with_reducible refine below_drew1 ?_) | (with_reducible refine pw_below_drewN ?_ _)))⟩
  by_cases h5 : l.amount = 0
  · have HF : Aside0 (legFault l = 1) := ⟨by rw [legFault, legOk, ← Bool.and_assoc (inB l.account 0 5), h1, h2, h4]; simp [h5]⟩
    have h6 : (l.amount == 0) = true := by simpa using h5
    clear h5
    go_enter Try.func137, Try.ntmps137
    go_wp2_with (first | (go_at_call 151; refine (impl_isShard _ _).mono ?_; rintro e w' ⟨rfl, rfl⟩) | (go_at_call 152; refine (impl_isPlace _ _ _).mono ?_; rintro e w' ⟨rfl, rfl⟩; rw [h2]) | (go_at_call 78; refine (impl_within _ _ _ _).mono ?_; rintro e w' ⟨rfl, rfl⟩))
    go_ret
    exact ⟨ret_int HF.out.symm, by (repeat (first | (with_reducible exact HB.out) | (with_reducible refine below_alloc ?_ _) | (with_reducible refine below_drew1 ?_) | (with_reducible refine pw_below_drewN ?_ _)))⟩
  · have HF : Aside0 (legFault l = 0) := ⟨by rw [legFault, legOk, ← Bool.and_assoc (inB l.account 0 5), h1, h2, h4]; simp [h5]⟩
    have h6 : (l.amount == 0) = false := by simpa using h5
    clear h5
    go_enter Try.func137, Try.ntmps137
    go_wp2_with (first | (go_at_call 151; refine (impl_isShard _ _).mono ?_; rintro e w' ⟨rfl, rfl⟩) | (go_at_call 152; refine (impl_isPlace _ _ _).mono ?_; rintro e w' ⟨rfl, rfl⟩; rw [h2]) | (go_at_call 78; refine (impl_within _ _ _ _).mono ?_; rintro e w' ⟨rfl, rfl⟩))
    go_ret
    exact ⟨ret_int HF.out.symm, by (repeat (first | (with_reducible exact HB.out) | (with_reducible refine below_alloc ?_ _) | (with_reducible refine below_drew1 ?_) | (with_reducible refine pw_below_drewN ?_ _)))⟩
set_option maxRecDepth 100000 in
set_option maxHeartbeats 800000 in
theorem impl_samePlace (a b : Leg) (w : World) : Calls Try.prog 140 #[.agg #[.int .i64 a.shard, .int .i64 a.account, .int .i64 a.asset, .int .i64 a.amount], .agg #[.int .i64 b.shard, .int .i64 b.account, .int .i64 b.asset, .int .i64 b.amount]] w fun e w' => e = .returned (.bool (samePlace a b)) ∧ Below w.heap.size w w' := by
  have hu := Try.underlying151
  have HB := Aside0.mk (Below.refl w.heap.size w)
  unfold samePlace
  cases h1 : (a.shard == b.shard)
  · go_enter Try.func140, Try.ntmps140
    go_wp2
    go_ret
    exact ⟨rfl, by (repeat (first | (with_reducible exact HB.out) | (with_reducible refine below_alloc ?_ _) | (with_reducible refine below_drew1 ?_) | (with_reducible refine pw_below_drewN ?_ _)))⟩
  cases h2 : (a.account == b.account)
  · go_enter Try.func140, Try.ntmps140
    go_wp2
    go_ret
    exact ⟨rfl, by (repeat (first | (with_reducible exact HB.out) | (with_reducible refine below_alloc ?_ _) | (with_reducible refine below_drew1 ?_) | (with_reducible refine pw_below_drewN ?_ _)))⟩
  cases h3 : (a.asset == b.asset)
  · go_enter Try.func140, Try.ntmps140
    go_wp2
    go_ret
    exact ⟨rfl, by (repeat (first | (with_reducible exact HB.out) | (with_reducible refine below_alloc ?_ _) | (with_reducible refine below_drew1 ?_) | (with_reducible refine pw_below_drewN ?_ _)))⟩
  · go_enter Try.func140, Try.ntmps140
    go_wp2
    go_ret
    exact ⟨rfl, by (repeat (first | (with_reducible exact HB.out) | (with_reducible refine below_alloc ?_ _) | (with_reducible refine below_drew1 ?_) | (with_reducible refine pw_below_drewN ?_ _)))⟩
set_option maxRecDepth 100000 in
set_option maxHeartbeats 800000 in
theorem impl_LogFault (x : Log) (cx : List Value) (w : World) (hx : kLog.K w x cx) (h0 : x.synced.length ≤ 1099511627776) (h1 : x.loose.length ≤ 1099511627776) : Calls Try.prog 62 #[.agg cx.toArray] w fun e w' => e = .returned (.int .i64 (if x.synced.length + x.loose.length > 6000 then 2 else 0)) ∧ Below w.heap.size w w' := by
  obtain ⟨A0, c0, A1, c1, rfl, q0, g0, q1, g1⟩ := kLog_open hx
  have hu := Try.underlying34
  have HB := Aside0.mk (Below.refl w.heap.size w)
  clear g0 g1 hx
  by_cases h : x.synced.length + x.loose.length > 6000
  · have h2 : decide ((6000 : Int) < (x.synced.length : Int) + (x.loose.length : Int)) = true := by simp; omega
    rw [if_pos h]
    go_enter Try.func62, Try.ntmps62
    go_wp2
    go_ret
    exact ⟨rfl, by (repeat (first | (with_reducible exact HB.out) | (with_reducible refine below_alloc ?_ _) | (with_reducible refine below_drew1 ?_) | (with_reducible refine pw_below_drewN ?_ _)))⟩
  · have h2 : decide ((6000 : Int) < (x.synced.length : Int) + (x.loose.length : Int)) = false := by simp; omega
    rw [if_neg h]
    go_enter Try.func62, Try.ntmps62
    go_wp2
    go_ret
    exact ⟨rfl, by (repeat (first | (with_reducible exact HB.out) | (with_reducible refine below_alloc ?_ _) | (with_reducible refine below_drew1 ?_) | (with_reducible refine pw_below_drewN ?_ _)))⟩
set_option maxRecDepth 100000 in
set_option maxHeartbeats 800000 in
theorem impl_CheckOf (A : Option Addr) (c : Nat) (l : List Int) (w : World) (hC : Kd.C (Kd.int .u8) w A l.length l) (hlc : l.length ≤ c) (hl : l.length ≤ 1099511627776) (hb : Bytes l) : Calls Try.prog 135 #[.slice A l.length c] w fun e w' => e = .returned (.int .i64 (checkOf l)) ∧ w = w' := by
  have HC := Aside0.mk hC; have HY := Aside0.mk hb; clear hC hb
  go_enter Try.func135, Try.ntmps135
  go_wp2
  go_loopg [3, 8] l.length (fun n v3 v4 w' => ∃ (i : Nat) (h : Int), v4 = .int .i64 i ∧ v3 = .int .i64 h ∧ 0 ≤ h ∧ h < 65521 ∧ Aside0 (n + i = l.length ∧ h = checkOf (l.take i) ∧ w = w'))
  case atStart => exact ⟨0, 1, rfl, rfl, by omega, by omega, ⟨by omega, by simp [checkOf], rfl⟩⟩
  case round =>
    obtain ⟨i, h, rfl, rfl, h0, h1, ⟨HN, HH, rfl⟩⟩ := hrel
    replace HN := Aside0.mk HN; replace HH := Aside0.mk HH
    by_cases hi : i < l.length
    · obtain ⟨ad, e0, x0⟩ := nthu8 HC.out i hi
      subst e0
      have x1 := x0 _ (Below.refl _ _)
      clear x0
      have b0 := (HY.out i).1; have b1 := (HY.out i).2
      go_wp2
      go_roundg (gk - 1)
      case measure => have := HN.out; omega
      case rel => exact ⟨i + 1, _, by go_num, rfl, by omega, by omega, ⟨by have := HN.out; omega, by rw [take_succ_u8 l i hi, checkOf_snoc, HH.out], rfl⟩⟩
    · obtain rfl : i = l.length := by have := HN.out; omega
      go_wp2
      go_ret
      exact ⟨ret_int (by rw [HH.out, List.take_of_length_le (Nat.le_refl _)]), rfl⟩

end Go.Proofs.Ytjlhdhbnaagajaa.J
