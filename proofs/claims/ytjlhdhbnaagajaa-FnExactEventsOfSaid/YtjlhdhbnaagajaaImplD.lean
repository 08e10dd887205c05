/- The program's ContractFault. -/
import Derived.Test.YtjlhdhbnaagajaaImplA
import Derived.Test.YtjlhdhbnaagajaaSpecB
import Derived.Maps.RangeWalk
import Derived.Maps.OwnOps
import Derived.Maps.Views
namespace Go.Proofs.Ytjlhdhbnaagajaa.J
open Go.RowKit Go.Proofs.YtjlhdhbnaagajaaW.PrintWords Go.Proofs.YtjlhdhbnaagajaaW.PrintLast Go.Proofs.YtjlhdhbnaagajaaW.PrintMore
set_option linter.unusedVariables false
set_option linter.unusedSimpArgs false

set_option maxRecDepth 100000 in
set_option maxHeartbeats 800000 in
theorem impl_cf1 (a b : Leg) (B : Nat) (w : World) (hB : B < w.heap.size) (h0 : w.cell? ⟨B, 0, none⟩ = some (.int .i64 b.shard)) (h1 : w.cell? ⟨B, 1, none⟩ = some (.int .i64 b.account)) (h2 : w.cell? ⟨B, 2, none⟩ = some (.int .i64 b.asset)) (h3 : w.cell? ⟨B, 3, none⟩ = some (.int .i64 b.amount)) :
    Calls Try.prog 139 #[.agg #[.int .i64 a.shard, .int .i64 a.account, .int .i64 a.asset, .int .i64 a.amount], .pointer (some ⟨B, 0, none⟩)] w fun e w' => e = .returned (.bool (samePlace a b)) ∧ Below w.heap.size w w' := by
  have hu := Try.underlying151
  have HB := Aside0.mk (Below.refl w.heap.size w)
  go_enter Try.func139, Try.ntmps139
  go_wp2_with (first | (go_at_call 140; refine (impl_samePlace a b _).mono ?_; rintro e W1 ⟨rfl, hbw⟩; have HB1 : Aside0 (Below w.heap.size w W1) := ⟨below_step (by (repeat (first | (with_reducible exact HB.out) | (with_reducible refine below_alloc ?_ _) | (with_reducible refine below_drew1 ?_) | (with_reducible refine pw_below_drewN ?_ _)))) hbw⟩; clear HB hbw; have HB := HB1; clear HB1))
  go_ret
  exact ⟨rfl, by (repeat (first | (with_reducible exact HB.out) | (with_reducible refine below_alloc ?_ _) | (with_reducible refine below_drew1 ?_) | (with_reducible refine pw_below_drewN ?_ _)))⟩
/-- Has one of the first n legs the place of leg b? -/
def anyAt (l : List Leg) (n : Nat) (b : Leg) : Bool := (List.range n).any fun k => samePlace (nthLeg_ l k) b
theorem anyAt_no (l : List Leg) (n : Nat) (b : Leg) (h : ∀ k, k < n → samePlace (nthLeg_ l k) b = false) : anyAt l n b = false := by
  rw [anyAt, List.any_eq_false]; intro k hk; rw [List.mem_range] at hk; simp [h k hk]
theorem anyAt_yes (l : List Leg) (n k : Nat) (b : Leg) (hk : k < n) (h : samePlace (nthLeg_ l k) b = true) : anyAt l n b = true := by
  rw [anyAt, List.any_eq_true]; exact ⟨k, List.mem_range.2 hk, h⟩
set_option maxRecDepth 100000 in
set_option maxHeartbeats 800000 in
theorem slices_IndexFunc_Leg (A : Option Addr) (c n : Nat) (l : List Leg) (b : Leg) (B : Nat) (w : World) (hC : kLeg.C w A l.length l) (hn : n ≤ l.length) (hl : l.length ≤ 8) (hB : B < w.heap.size) (h0 : w.cell? ⟨B, 0, none⟩ = some (.int .i64 b.shard)) (h1 : w.cell? ⟨B, 1, none⟩ = some (.int .i64 b.account)) (h2 : w.cell? ⟨B, 2, none⟩ = some (.int .i64 b.asset)) (h3 : w.cell? ⟨B, 3, none⟩ = some (.int .i64 b.amount)) :
    Calls Try.prog 153 #[.slice A n c, .func (.func 139) #[] #[.pointer (some ⟨B, 0, none⟩)]] w fun e w' => (∃ r : Int, e = .returned (.int .i64 r) ∧ decide (0 ≤ r) = anyAt l n b) ∧ Below w.heap.size w w' := by
  have HC := Aside0.mk hC
  have K : Aside0 (∀ a w2, Below w.heap.size w w2 → Calls Try.prog 139 #[.agg #[.int .i64 a.shard, .int .i64 a.account, .int .i64 a.asset, .int .i64 a.amount], .pointer (some ⟨B, 0, none⟩)] w2 fun e w' => e = .returned (.bool (samePlace a b)) ∧ Below w2.heap.size w2 w') := ⟨fun a w2 hb => impl_cf1 a b B w2 (Nat.lt_of_lt_of_le hB hb.size) (pw_cell_below hb h0) (pw_cell_below hb h1) (pw_cell_below hb h2) (pw_cell_below hb h3)⟩
  clear hC h0 h1 h2 h3
  go_enter Try.func153, Try.ntmps153
  go_wp2
  go_loopg [8] n (fun m v8 w' => ∃ i : Nat, v8 = .int .i64 i ∧ Aside0 (m + i = n ∧ (∀ k, k < i → samePlace (nthLeg_ l k) b = false) ∧ Below w.heap.size w w'))
  case atStart => exact ⟨0, rfl, ⟨by omega, fun k h => by omega, Below.refl _ _⟩⟩
  case round =>
    obtain ⟨i, rfl, ⟨HN, HP, HB⟩⟩ := hrel
    replace HN := Aside0.mk HN; replace HP := Aside0.mk HP; replace HB := Aside0.mk HB
    by_cases hi : i < n
    · obtain ⟨ad, e0, x0⟩ := nthLeg HC.out i (by omega)
      subst e0
      obtain ⟨y0, y1, y2, y3⟩ := x0 _ HB.out
      clear x0
      cases hq : samePlace (nthLeg_ l i) b with
      | true =>
        have HA := Aside0.mk (anyAt_yes l n i b hi hq)
        have HQ := Aside0.mk hq; clear hq
        go_wp2_with (first | (go_at_call 139; refine (K.out (nthLeg_ l i) _ HB.out).mono ?_; rintro e W1 ⟨rfl, hbw⟩; rw [HQ.out]; have HB1 := Aside0.mk (below_step HB.out hbw); clear hbw))
        go_ret
        exact ⟨⟨i, rfl, by rw [HA.out]; simp⟩, HB1.out⟩
      | false =>
        have HQ := Aside0.mk hq; clear hq
        go_wp2_with (first | (go_at_call 139; refine (K.out (nthLeg_ l i) _ HB.out).mono ?_; rintro e W1 ⟨rfl, hbw⟩; rw [HQ.out]; have HB1 := Aside0.mk (below_step HB.out hbw); clear hbw))
        go_roundg (gk - 1)
        case measure => have := HN.out; omega
        case rel => exact ⟨i + 1, by go_num, ⟨by have := HN.out; omega, fun k hk => by rcases Nat.lt_succ_iff_lt_or_eq.1 hk with hk | rfl; exact HP.out k hk; exact HQ.out, HB1.out⟩⟩
    · obtain rfl : i = n := by have := HN.out; omega
      go_wp2
      go_ret
      exact ⟨⟨-1, rfl, by rw [anyAt_no l i b HP.out]; simp⟩, HB.out⟩
set_option maxRecDepth 100000 in
set_option maxHeartbeats 800000 in
theorem slices_ContainsFunc_Leg (A : Option Addr) (c n : Nat) (l : List Leg) (b : Leg) (B : Nat) (w : World) (hC : kLeg.C w A l.length l) (hn : n ≤ l.length) (hl : l.length ≤ 8) (hB : B < w.heap.size) (h0 : w.cell? ⟨B, 0, none⟩ = some (.int .i64 b.shard)) (h1 : w.cell? ⟨B, 1, none⟩ = some (.int .i64 b.account)) (h2 : w.cell? ⟨B, 2, none⟩ = some (.int .i64 b.asset)) (h3 : w.cell? ⟨B, 3, none⟩ = some (.int .i64 b.amount)) :
    Calls Try.prog 138 #[.slice A n c, .func (.func 139) #[] #[.pointer (some ⟨B, 0, none⟩)]] w fun e w' => e = .returned (.bool (anyAt l n b)) ∧ Below w.heap.size w w' := by
  have K := Aside0.mk (slices_IndexFunc_Leg A c n l b B w hC hn hl hB h0 h1 h2 h3)
  clear hC h0 h1 h2 h3
  go_enter Try.func138, Try.ntmps138
  go_wp2_with (first | (go_at_call 153; refine K.out.mono ?_; rintro e W1 ⟨⟨r, rfl, hr⟩, hbw⟩; have HR := Aside0.mk hr; have HB := Aside0.mk hbw; clear hr hbw))
  go_ret
  exact ⟨by rw [← HR.out]; rfl, HB.out⟩
/-! The sums by assets, as the map holds them. -/
abbrev zi (x : Int) : DataW Unit := .lit (.int .i64 x)
def MapIs (D : DataW Unit) (s : Int → Int) : Prop := Maps.IsMap D ∧ ∀ a, D.atKey (.int .i64 a) (zi 0) = zi (s a)
theorem MapIs.none : MapIs (.map []) (fun _ => 0) := ⟨Maps.isMap_empty, fun a => Maps.atKey_of_not_has rfl _⟩
theorem MapIs.step {D : DataW Unit} {l : List Leg} {i : Nat} (h : MapIs D (fun a => sumOf a (l.take i))) (hi : i < l.length) : MapIs (D.put (.int .i64 (nthLeg_ l i).asset) (zi (sumOf (nthLeg_ l i).asset (l.take i) + (nthLeg_ l i).amount))) (fun a => sumOf a (l.take (i + 1))) := by
  refine ⟨h.1.put _ _, fun a => ?_⟩
  show _ = zi (sumOf a (l.take (i + 1)))
  rw [take_succ_leg l i hi, sumOf_snoc]
  by_cases ha : a = (nthLeg_ l i).asset
  · subst ha
    rw [Maps.atKey_put_same h.1 (show WideAt.IsKeyLit (.int .i64 (nthLeg_ l i).asset) from trivial), amountOf_eq _ _ rfl]
  · rw [Maps.atKey_put_other (by intro hc; injection hc with _ hc; exact ha hc), h.2 a, amountOf_ne _ _ (fun hc => ha hc.symm), Int.add_zero]
theorem MapIs.val {D : DataW Unit} {s : Int → Int} (h : MapIs D s) {a c : Int} (hat : D.atKey (.int .i64 a) (.lit (.int .i64 0)) = .lit (.int .i64 c)) : c = s a := by
  have := (h.2 a).symm.trans hat
  injection this with h1
  injection h1 with _ h2
  exact h2.symm
theorem MapIs.no {D : DataW Unit} {s : Int → Int} (h : MapIs D s) {a : Int} (hn : Maps.has D (.int .i64 a) = false) : s a = 0 := (h.val (Maps.atKey_of_not_has hn _)).symm
def SumsIn (l : List Leg) (i : Nat) : Prop := ∀ a, (a < 0 ∨ 2 < a) → sumOf a (l.take i) = 0
theorem SumsIn.step {l : List Leg} {i : Nat} (hi : i < l.length) (h : SumsIn l i) (hl : legFault (nthLeg_ l i) = 0) : SumsIn l (i + 1) := by
  intro a ha
  have hb := legFault_zero hl
  rw [take_succ_leg l i hi, sumOf_snoc, h a ha, amountOf_ne _ _ (by omega)]
  rfl
theorem law_i64 : Maps.Keyed Try.prog 2 := Maps.int_keyed Try.underlying2
theorem zero_i64 (w : World) : (zeroValue 2).run Try.prog w = .ok (.int .i64 0) w := by kernel_rfl

end Go.Proofs.Ytjlhdhbnaagajaa.J
