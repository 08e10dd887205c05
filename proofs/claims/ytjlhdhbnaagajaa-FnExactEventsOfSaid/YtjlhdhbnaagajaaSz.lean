import Derived.Test.YtjlhdhbnaagajaaMark
namespace Go.Proofs.Ytjlhdhbnaagajaa.J
open Go.RowKit Go.Proofs.YtjlhdhbnaagajaaW.PrintWords Go.Proofs.YtjlhdhbnaagajaaW.PrintLast Go.Proofs.YtjlhdhbnaagajaaW.PrintMore
set_option linter.unusedVariables false
set_option linter.unusedSimpArgs false

/-- What is left of a count behind a list. -/
def szr (left : Int) (n : Nat) : Int := if left < n then -1 else left - n
theorem ret_int {k : IntKind} {a b : Int} (h : a = b) : Ending.returned (.int k a) = .returned (.int k b) := by rw [h]
theorem szr_no {left : Int} {n : Nat} (h : left < n) : szr left n = -1 := if_pos h
theorem szr_ok {left : Int} {n : Nat} (h : n ≤ left) : szr left n = left - n := if_neg (by omega)
/-- An element of a row of the call's own is written whole. -/
theorem R_full {α : Type} {d : Kd α} {e base n c g : Nat} {W : World} {ok okp : Nat → Prop} {xs : List α} (h : d.R e W base ok (.slice (some ⟨g, 0, none⟩) n c) xs) (z : α) (i : Nat) (hi : i < n) (seg : List Value) (x' : α) (hl : seg.length = d.sz) (hM : d.M W base okp x' seg) (hok : ∀ k, okp k → ok k ∧ k ≠ g) :
    d.R e (W.setCells g (i * d.sz) seg) base ok (.slice (some ⟨g, 0, none⟩) n c) (xs.set i x') ∧ W.grownBy (W.setCells g (i * d.sz) seg) (some g) := by
  obtain ⟨g', hg, _, _, cs, hcl, _, _, _, hs⟩ := R_open h z i hi
  obtain rfl : g = g' := by injection hg with hg; injection hg
  have := hs seg x' okp 0 (by omega) (by rw [List.take_zero, Nat.zero_add, List.drop_of_length_le (by omega)]; simpa using hM) hok
  simpa using this
theorem blk_new1 (w : World) (a b : Obj) : ((w.alloc a).alloc b).heap[w.heap.size + 1]? = some b := by have h := blk_new (w.alloc a) b; rwa [World.size_alloc] at h
theorem blk_new2 (w : World) (a b c : Obj) : (((w.alloc a).alloc b).alloc c).heap[w.heap.size + 2]? = some c := by have h := blk_new ((w.alloc a).alloc b) c; rwa [World.size_alloc, World.size_alloc] at h
theorem bd_setCells {w0 W W2 : World} {g : Nat} (h : Below w0.heap.size w0 W) (hg : W.grownBy W2 (some g)) (hb : w0.heap.size ≤ g) : Below w0.heap.size w0 W2 := below_own h hg hb
set_option maxRecDepth 100000 in
set_option maxHeartbeats 800000 in
theorem szBalanceS (A : Option Addr) (c n : Nat) (left : Int) (w : World) (hn : n ≤ 9223372036854775807) (h0 : 0 ≤ left) (h1 : left ≤ 1048576) :
    Calls Try.prog 23 #[.slice A n c, .int .i64 left] w fun e w' => e = .returned (.int .i64 (szr left n)) ∧ Below w.heap.size w w' := by
  by_cases h : left < n
  · rw [szr_no h]; have ht : decide (left - (n : Int) < 0) = true := by simp; omega
    go_enter Try.func23, Try.ntmps23
    go_wp2
    go_ret
    exact ⟨rfl, Below.refl _ _⟩
  · rw [szr_ok (by omega)]; have ht : decide (left - (n : Int) < 0) = false := by simp; omega
    go_enter Try.func23, Try.ntmps23
    go_wp2
    go_ret
    exact ⟨rfl, Below.refl _ _⟩
set_option maxRecDepth 100000 in
set_option maxHeartbeats 800000 in
theorem szByteS (A : Option Addr) (c n : Nat) (left : Int) (w : World) (hn : n ≤ 9223372036854775807) (h0 : 0 ≤ left) (h1 : left ≤ 1048576) :
    Calls Try.prog 56 #[.slice A n c, .int .i64 left] w fun e w' => e = .returned (.int .i64 (szr left n)) ∧ Below w.heap.size w w' := by
  by_cases h : left < n
  · rw [szr_no h]; have ht : decide (left - (n : Int) < 0) = true := by simp; omega
    go_enter Try.func56, Try.ntmps56
    go_wp2
    go_ret
    exact ⟨rfl, Below.refl _ _⟩
  · rw [szr_ok (by omega)]; have ht : decide (left - (n : Int) < 0) = false := by simp; omega
    go_enter Try.func56, Try.ntmps56
    go_wp2
    go_ret
    exact ⟨rfl, Below.refl _ _⟩
set_option maxRecDepth 100000 in
set_option maxHeartbeats 800000 in
theorem szLog (x : Log) (cx : List Value) (left : Int) (w : World) (hx : kLog.K w x cx) (hn0 : x.synced.length ≤ 9223372036854775807) (hn1 : x.loose.length ≤ 9223372036854775807) (h0 : 0 ≤ left) (h1 : left ≤ 1048576) :
    Calls Try.prog 24 #[.agg cx.toArray, .int .i64 left] w fun e w' => e = .returned (.int .i64 (szr left (x.synced.length + x.loose.length))) ∧ Below w.heap.size w w' := by
  have hu := Try.underlying25
  obtain ⟨A0, c0, A1, c1, rfl, q0, g0, q1, g1⟩ := kLog_open hx
  have G0 := Aside0.mk g0; clear g0
  have G1 := Aside0.mk g1; clear g1
  clear hx; have HB := Aside0.mk (Below.refl w.heap.size w)
  by_cases h0_ : left < (x.synced.length : Int)
  · rw [szr_no (by omega)]
    go_enter Try.func24, Try.ntmps24
    go_wp2_with (first | (go_at_call_of 56 (A0); go_must (refine (szByteS _ _ _ _ _ hn0 (by omega) (by omega)).mono ?_; rw [szr_no (by omega)]; rintro e w1 ⟨rfl, hbw⟩; have HB1 : Aside0 (Below w.heap.size w w1) := ⟨below_step (by (repeat (first | (with_reducible exact HB.out) | (with_reducible refine below_alloc ?_ _) | (with_reducible refine below_drew1 ?_) | (with_reducible refine pw_below_drewN ?_ _)))) hbw⟩; clear HB; have HB := HB1; clear HB1; obtain ⟨hc, hf⟩ := bcell hbw; clear hbw)))
    go_ret
    exact ⟨rfl, by (repeat (first | (with_reducible exact HB.out) | (with_reducible refine below_alloc ?_ _) | (with_reducible refine below_drew1 ?_) | (with_reducible refine pw_below_drewN ?_ _)))⟩
  by_cases h1_ : left < (x.synced.length : Int) + (x.loose.length : Int)
  · rw [szr_no (by omega)]
    go_enter Try.func24, Try.ntmps24
    go_wp2_with (first | (go_at_call_of 56 (A0); go_must (refine (szByteS _ _ _ _ _ hn0 (by omega) (by omega)).mono ?_; rw [szr_ok (by omega)]; rintro e w1 ⟨rfl, hbw⟩; have HB1 : Aside0 (Below w.heap.size w w1) := ⟨below_step (by (repeat (first | (with_reducible exact HB.out) | (with_reducible refine below_alloc ?_ _) | (with_reducible refine below_drew1 ?_) | (with_reducible refine pw_below_drewN ?_ _)))) hbw⟩; clear HB; have HB := HB1; clear HB1; obtain ⟨hc, hf⟩ := bcell hbw; clear hbw)) | (go_at_call_of 56 (A1); go_must (refine (szByteS _ _ _ _ _ hn1 (by omega) (by omega)).mono ?_; rw [szr_no (by omega)]; rintro e w1 ⟨rfl, hbw⟩; have HB1 : Aside0 (Below w.heap.size w w1) := ⟨below_step (by (repeat (first | (with_reducible exact HB.out) | (with_reducible refine below_alloc ?_ _) | (with_reducible refine below_drew1 ?_) | (with_reducible refine pw_below_drewN ?_ _)))) hbw⟩; clear HB; have HB := HB1; clear HB1; obtain ⟨hc, hf⟩ := bcell hbw; clear hbw)))
    go_ret
    exact ⟨rfl, by (repeat (first | (with_reducible exact HB.out) | (with_reducible refine below_alloc ?_ _) | (with_reducible refine below_drew1 ?_) | (with_reducible refine pw_below_drewN ?_ _)))⟩
  · rw [szr_ok (by omega)]
    go_enter Try.func24, Try.ntmps24
    go_wp2_with (first | (go_at_call_of 56 (A0); go_must (refine (szByteS _ _ _ _ _ hn0 (by omega) (by omega)).mono ?_; rw [szr_ok (by omega)]; rintro e w1 ⟨rfl, hbw⟩; have HB1 : Aside0 (Below w.heap.size w w1) := ⟨below_step (by (repeat (first | (with_reducible exact HB.out) | (with_reducible refine below_alloc ?_ _) | (with_reducible refine below_drew1 ?_) | (with_reducible refine pw_below_drewN ?_ _)))) hbw⟩; clear HB; have HB := HB1; clear HB1; obtain ⟨hc, hf⟩ := bcell hbw; clear hbw)) | (go_at_call_of 56 (A1); go_must (refine (szByteS _ _ _ _ _ hn1 (by omega) (by omega)).mono ?_; rw [szr_ok (by omega)]; rintro e w1 ⟨rfl, hbw⟩; have HB1 : Aside0 (Below w.heap.size w w1) := ⟨below_step (by (repeat (first | (with_reducible exact HB.out) | (with_reducible refine below_alloc ?_ _) | (with_reducible refine below_drew1 ?_) | (with_reducible refine pw_below_drewN ?_ _)))) hbw⟩; clear HB; have HB := HB1; clear HB1; obtain ⟨hc, hf⟩ := bcell hbw; clear hbw)))
    go_ret
    exact ⟨ret_int (by omega), by (repeat (first | (with_reducible exact HB.out) | (with_reducible refine below_alloc ?_ _) | (with_reducible refine below_drew1 ?_) | (with_reducible refine pw_below_drewN ?_ _)))⟩
set_option maxRecDepth 100000 in
set_option maxHeartbeats 800000 in
theorem szJournal (x : Journal) (cx : List Value) (left : Int) (w : World) (hx : kJournal.K w x cx) (hn0 : x.start.length ≤ 9223372036854775807) (hn1 : x.log.synced.length ≤ 9223372036854775807) (hn2 : x.log.loose.length ≤ 9223372036854775807) (h0 : 0 ≤ left) (h1 : left ≤ 1048576) :
    Calls Try.prog 5 #[.agg cx.toArray, .int .i64 left] w fun e w' => e = .returned (.int .i64 (szr left (x.start.length + x.log.synced.length + x.log.loose.length))) ∧ Below w.heap.size w w' := by
  have hu := Try.underlying27
  obtain ⟨A0, c0, A1, c1, A2, c2, rfl, q0, g0, q1, g1, q2, g2⟩ := kJournal_open hx
  have G0 := Aside0.mk g0; clear g0
  have G1 := Aside0.mk g1; clear g1
  have G2 := Aside0.mk g2; clear g2
  clear hx; have HB := Aside0.mk (Below.refl w.heap.size w)
  by_cases h0_ : left < (x.start.length : Int)
  · rw [szr_no (by omega)]
    go_enter Try.func5, Try.ntmps5
    go_wp2_with (first | (go_at_call_of 23 (A0); go_must (refine (szBalanceS _ _ _ _ _ hn0 (by omega) (by omega)).mono ?_; rw [szr_no (by omega)]; rintro e w1 ⟨rfl, hbw⟩; have HB1 : Aside0 (Below w.heap.size w w1) := ⟨below_step (by (repeat (first | (with_reducible exact HB.out) | (with_reducible refine below_alloc ?_ _) | (with_reducible refine below_drew1 ?_) | (with_reducible refine pw_below_drewN ?_ _)))) hbw⟩; clear HB; have HB := HB1; clear HB1; obtain ⟨hc, hf⟩ := bcell hbw; clear hbw)))
    go_ret
    exact ⟨rfl, by (repeat (first | (with_reducible exact HB.out) | (with_reducible refine below_alloc ?_ _) | (with_reducible refine below_drew1 ?_) | (with_reducible refine pw_below_drewN ?_ _)))⟩
  by_cases h1_ : left < (x.start.length : Int) + (x.log.synced.length : Int) + (x.log.loose.length : Int)
  · rw [szr_no (by omega)]
    go_enter Try.func5, Try.ntmps5
    go_wp2_with (first | (go_at_call_of 23 (A0); go_must (refine (szBalanceS _ _ _ _ _ hn0 (by omega) (by omega)).mono ?_; rw [szr_ok (by omega)]; rintro e w1 ⟨rfl, hbw⟩; have HB1 : Aside0 (Below w.heap.size w w1) := ⟨below_step (by (repeat (first | (with_reducible exact HB.out) | (with_reducible refine below_alloc ?_ _) | (with_reducible refine below_drew1 ?_) | (with_reducible refine pw_below_drewN ?_ _)))) hbw⟩; clear HB; have HB := HB1; clear HB1; obtain ⟨hc, hf⟩ := bcell hbw; clear hbw)) | (go_at_call 24; go_must (refine (szLog x.log _ _ _ (kLog_mk x.log q1 (Kd.C_below G1.out ?hb1) q2 (Kd.C_below G2.out ?hb2)) hn1 hn2 (by omega) (by omega)).mono ?_; (case hb1 => (repeat (first | (with_reducible exact HB.out) | (with_reducible refine below_alloc ?_ _) | (with_reducible refine below_drew1 ?_) | (with_reducible refine pw_below_drewN ?_ _)))); (case hb2 => (repeat (first | (with_reducible exact HB.out) | (with_reducible refine below_alloc ?_ _) | (with_reducible refine below_drew1 ?_) | (with_reducible refine pw_below_drewN ?_ _)))); rw [szr_no (by omega)]; rintro e w1 ⟨rfl, hbw⟩; have HB1 : Aside0 (Below w.heap.size w w1) := ⟨below_step (by (repeat (first | (with_reducible exact HB.out) | (with_reducible refine below_alloc ?_ _) | (with_reducible refine below_drew1 ?_) | (with_reducible refine pw_below_drewN ?_ _)))) hbw⟩; clear HB; have HB := HB1; clear HB1; obtain ⟨hc, hf⟩ := bcell hbw; clear hbw)))
    go_ret
    exact ⟨rfl, by (repeat (first | (with_reducible exact HB.out) | (with_reducible refine below_alloc ?_ _) | (with_reducible refine below_drew1 ?_) | (with_reducible refine pw_below_drewN ?_ _)))⟩
  · rw [szr_ok (by omega)]
    go_enter Try.func5, Try.ntmps5
    go_wp2_with (first | (go_at_call_of 23 (A0); go_must (refine (szBalanceS _ _ _ _ _ hn0 (by omega) (by omega)).mono ?_; rw [szr_ok (by omega)]; rintro e w1 ⟨rfl, hbw⟩; have HB1 : Aside0 (Below w.heap.size w w1) := ⟨below_step (by (repeat (first | (with_reducible exact HB.out) | (with_reducible refine below_alloc ?_ _) | (with_reducible refine below_drew1 ?_) | (with_reducible refine pw_below_drewN ?_ _)))) hbw⟩; clear HB; have HB := HB1; clear HB1; obtain ⟨hc, hf⟩ := bcell hbw; clear hbw)) | (go_at_call 24; go_must (refine (szLog x.log _ _ _ (kLog_mk x.log q1 (Kd.C_below G1.out ?hb1) q2 (Kd.C_below G2.out ?hb2)) hn1 hn2 (by omega) (by omega)).mono ?_; (case hb1 => (repeat (first | (with_reducible exact HB.out) | (with_reducible refine below_alloc ?_ _) | (with_reducible refine below_drew1 ?_) | (with_reducible refine pw_below_drewN ?_ _)))); (case hb2 => (repeat (first | (with_reducible exact HB.out) | (with_reducible refine below_alloc ?_ _) | (with_reducible refine below_drew1 ?_) | (with_reducible refine pw_below_drewN ?_ _)))); rw [szr_ok (by omega)]; rintro e w1 ⟨rfl, hbw⟩; have HB1 : Aside0 (Below w.heap.size w w1) := ⟨below_step (by (repeat (first | (with_reducible exact HB.out) | (with_reducible refine below_alloc ?_ _) | (with_reducible refine below_drew1 ?_) | (with_reducible refine pw_below_drewN ?_ _)))) hbw⟩; clear HB; have HB := HB1; clear HB1; obtain ⟨hc, hf⟩ := bcell hbw; clear hbw)))
    go_ret
    exact ⟨ret_int (by omega), by (repeat (first | (with_reducible exact HB.out) | (with_reducible refine below_alloc ?_ _) | (with_reducible refine below_drew1 ?_) | (with_reducible refine pw_below_drewN ?_ _)))⟩
set_option maxRecDepth 100000 in
set_option maxHeartbeats 800000 in
theorem toBalance (x : Balance) (w : World) : Calls Try.prog 60 #[.agg #[.int .i64 x.account, .int .i64 x.asset, .int .i64 x.amount]] w fun e w' => e = .returned (.agg #[.int .i64 x.account, .int .i64 x.asset, .int .i64 x.amount]) ∧ Below w.heap.size w w' := by
  have hu := Try.underlying112; have hv := Try.underlying110
  have HB := Aside0.mk (Below.refl w.heap.size w)
  go_enter Try.func60, Try.ntmps60
  go_wp2
  exact bodyPost_ret (v := .agg #[.int .i64 x.account, .int .i64 x.asset, .int .i64 x.amount]) (by simp [results, Try.results60, go_sem]) rfl ⟨rfl, by (repeat (first | exact HB.out | refine below_alloc ?_ _ | refine below_drew1 ?_ | refine below_set ?_ (by simp)))⟩
end Go.Proofs.Ytjlhdhbnaagajaa.J
