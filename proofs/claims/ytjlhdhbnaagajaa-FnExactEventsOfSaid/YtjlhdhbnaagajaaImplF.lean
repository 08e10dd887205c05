/- The program's unframe. -/
import Derived.Test.YtjlhdhbnaagajaaImplC
import Derived.Test.YtjlhdhbnaagajaaSpecE
namespace Go.Proofs.Ytjlhdhbnaagajaa.J
open Go.RowKit Go.Proofs.YtjlhdhbnaagajaaW.PrintWords Go.Proofs.YtjlhdhbnaagajaaW.PrintLast Go.Proofs.YtjlhdhbnaagajaaW.PrintMore
set_option linter.unusedVariables false
set_option linter.unusedSimpArgs false

theorem recOk_no {l : List Int} {i : Nat} (h : recFits l i = false) : recOk l i = false := by simp [recOk, h]
set_option maxRecDepth 100000 in
set_option maxHeartbeats 1600000 in
theorem impl_unframe (A : Option Addr) (c : Nat) (l : List Int) (w : World) (hC : Kd.C (Kd.int .u8) w A l.length l) (hlc : l.length ≤ c) (hl : l.length ≤ 6000) (hb : Bytes l) : Calls Try.prog 107 #[.slice A l.length c] w fun e w' => (∃ (A' : Option Addr) (n' c' : Nat), e = .returned (.tuple #[.slice A' n' c', .bool (recOk l 0)]) ∧ (recOk l 0 = true → n' = (recOf l 0).length ∧ n' ≤ c' ∧ Kd.C (Kd.int .u8) w' A' n' (recOf l 0))) ∧ Below w.heap.size w w' := by
  have HC := Aside0.mk hC; have HY := Aside0.mk hb; clear hC hb
  have HB := Aside0.mk (Below.refl w.heap.size w)
  by_cases h4 : l.length < 4
  · have HNO : Aside0 (recOk l 0 = false) := ⟨recOk_no (by simp [recFits]; omega)⟩
    go_enter Try.func107, Try.ntmps107
    go_wp2
    go_ret2
    exact ⟨⟨none, 0, 0, by rw [HNO.out] <;> rfl, fun h => by rw [HNO.out] at h; cases h⟩, by (repeat (first | (with_reducible exact HB.out) | (with_reducible refine below_alloc ?_ _) | (with_reducible refine below_drew1 ?_) | (with_reducible refine pw_below_drewN ?_ _)))⟩
  obtain ⟨ad, e0, x0⟩ := nthu8 HC.out 0 (by omega)
  subst e0
  obtain ⟨_, e1, x1⟩ := nthu8 HC.out 1 (by omega)
  cases e1
  replace x0 : w.cell? ad = some (.int .u8 (nthu8_ l 0)) := by have := x0 w (Below.refl _ _); simpa [atu8, Addr.add] using this
  replace x1 : w.cell? ⟨ad.block, ad.off + 1, none⟩ = some (.int .u8 (nthu8_ l 1)) := cell_add (by omega) (x1 w (Below.refl _ _))
  have b0 := (HY.out 0).1; have b0' := (HY.out 0).2
  have b1 := (HY.out 1).1; have b1' := (HY.out 1).2
  have v0 : IntKind.i64.wrap (nthu8_ l 0) = nthu8_ l 0 := wrap_fits (by omega) (by omega)
  have v1 : IntKind.i64.wrap (nthu8_ l 1) = nthu8_ l 1 := wrap_fits (by omega) (by omega)
  have v2 : IntKind.i64.wrap (nthu8_ l 0 * 256) = nthu8_ l 0 * 256 := wrap_fits (by omega) (by omega)
  have v3 : IntKind.i64.wrap (nthu8_ l 0 * 256 + nthu8_ l 1) = nthu8_ l 0 * 256 + nthu8_ l 1 := wrap_fits (by omega) (by omega)
  have j0 : (0 : Int) < (l.length : Int) := by omega
  have j1 : (1 : Int) < (l.length : Int) := by omega
  have k0 : 0 < l.length := by omega
  have k1 : 1 < l.length := by omega
  obtain ⟨N, hN⟩ : ∃ N : Nat, nthu8_ l 0 * 256 + nthu8_ l 1 = N := ⟨_, (Int.toNat_of_nonneg (by omega)).symm⟩
  have hR : recLen l 0 = N := by rw [recLen, hN]; rfl
  have HR := Aside0.mk hR; clear hR
  by_cases g1 : 1 ≤ N ∧ N ≤ 500
  · obtain ⟨g1, g2⟩ := g1
    have HIN : Aside0 (inB (N : Int) 1 500 = true) := ⟨by simp only [inB, Bool.and_eq_true, decide_eq_true_eq]; omega⟩
    by_cases g3 : 4 + N ≤ l.length
    · obtain ⟨Ac, hcut, hcC, hcl⟩ := cutMid (some ad) c l 4 (4 + (N : Int)) 4 (4 + N) (by omega) (by omega) (by omega) g3 hlc
      have HCM := Aside0.mk (hcC _ HC.out); clear hcC
      obtain ⟨Ad, hcut2, hcC2, hcl2⟩ := cutMid (some ad) c l 2 4 2 4 (by omega) (by omega) (by omega) (by omega) hlc
      have HCD := Aside0.mk (hcC2 _ HC.out); clear hcC2
      have hml : (mid l 4 (4 + N)).length = N := by rw [mid_len _ _ _ g3]; omega
      have hck := checkOf_bd (mid l 4 (4 + N))
      have HEQ : Aside0 (decide (mid l 2 4 = pairOf (checkOf (mid l 4 (4 + N)))) = recOk l 0 ∧ recOf l 0 = mid l 4 (4 + N)) := ⟨by
        have e0 : recOf l 0 = mid l (0 + 4) (0 + 4 + N) := by rw [recOf, HR.out]
        simp only [Nat.zero_add] at e0
        refine ⟨?_, e0⟩
        have ef : recFits l 0 = true := by simp only [recFits, HR.out, Bool.and_eq_true, decide_eq_true_eq]; omega
        rw [recOk, ef, Bool.true_and, e0]
        exact decide_eq_decide.2 (pair_iff l HY.out 2 (by omega) _ hck.1 hck.2)⟩
      have HML := Aside0.mk hml; have HCK := Aside0.mk hck; clear hml hck
      go_enter Try.func107, Try.ntmps107
      go_wp2
      go_region_held3 (fun w' => w'.cell? ad = some (.int .u8 (nthu8_ l 0)) ∧ w'.cell? ⟨ad.block, ad.off + 1, none⟩ = some (.int .u8 (nthu8_ l 1))) (first | exact ⟨x0, x1⟩) (fail)
      go_wp2_with (first | (go_at_call 78; refine (impl_within _ _ _ _).mono ?_; rintro e w' ⟨rfl, rfl⟩; rw [HIN.out]))
      go_region_held3 (fun w' => True) (exact trivial) (first | (go_at_call 135; go_must (refine (impl_CheckOf _ _ (mid l 4 (4 + N)) _ ?hc hcl ?hm (HY.out.mid _ _)).mono ?_; (case hc => (repeat (first | (with_reducible exact HCM.out) | (with_reducible refine Kd.C_drew ?_) | (with_reducible refine Kd.C_drewN ?_ _)))); (case hm => rw [HML.out]; omega); rintro e w' ⟨rfl, rfl⟩)) | (go_at_call 134; go_must (refine (impl_pair _ _).mono ?_; rintro e W1 ⟨⟨v, rfl, ho⟩, hbw⟩; obtain ⟨Ap, cp, ep, hlp, hCp⟩ := Kd.R_reads ho; subst ep; have HCP := Aside0.mk hCp; have HB1 : Aside0 (Below w.heap.size w W1) := ⟨below_step (by (repeat (first | (with_reducible exact HB.out) | (with_reducible refine below_alloc ?_ _) | (with_reducible refine below_drew1 ?_) | (with_reducible refine pw_below_drewN ?_ _)))) hbw⟩; clear ho hbw hCp)) | (go_at_call 68; go_must (refine (bytes_Equal _ _ (mid l 2 4) _ _ (pairOf (checkOf (mid l 4 (4 + N)))) _ (Kd.C_below HCD.out HB1.out) HCP.out (HY.out.mid _ _) (Bytes.cons (by omega) (Bytes.cons (by omega) Bytes.nil))).mono ?_; rintro e w' ⟨rfl, rfl⟩)))
      go_wp2
      go_ret2
      exact ⟨⟨Ac, _, _, by rw [← HEQ.out.1] <;> rfl, fun _ => by rw [HEQ.out.2]; exact ⟨rfl, hcl, Kd.C_below HCM.out HB1.out⟩⟩, HB1.out⟩
    · have HNO : Aside0 (recOk l 0 = false) := ⟨recOk_no (by
        cases hf : recFits l 0
        · rfl
        · simp only [recFits, HR.out, Bool.and_eq_true, decide_eq_true_eq] at hf; omega)⟩
      go_enter Try.func107, Try.ntmps107
      go_wp2
      go_region_held3 (fun w' => w'.cell? ad = some (.int .u8 (nthu8_ l 0)) ∧ w'.cell? ⟨ad.block, ad.off + 1, none⟩ = some (.int .u8 (nthu8_ l 1))) (first | exact ⟨x0, x1⟩) (fail)
      go_wp2_with (first | (go_at_call 78; refine (impl_within _ _ _ _).mono ?_; rintro e w' ⟨rfl, rfl⟩; rw [HIN.out]))
      go_ret2
      exact ⟨⟨none, 0, 0, by rw [HNO.out] <;> rfl, fun h => by rw [HNO.out] at h; cases h⟩, by (repeat (first | (with_reducible exact HB.out) | (with_reducible refine below_alloc ?_ _) | (with_reducible refine below_drew1 ?_) | (with_reducible refine pw_below_drewN ?_ _)))⟩
  · have HNO : Aside0 (recOk l 0 = false) := ⟨recOk_no (by
        cases hf : recFits l 0
        · rfl
        · simp only [recFits, HR.out, Bool.and_eq_true, decide_eq_true_eq] at hf; omega)⟩
    have HIN : Aside0 (inB (N : Int) 1 500 = false) := ⟨by rw [Bool.eq_false_iff]; intro hc; simp only [inB, Bool.and_eq_true, decide_eq_true_eq] at hc; omega⟩
    go_enter Try.func107, Try.ntmps107
    go_wp2
    go_region_held3 (fun w' => w'.cell? ad = some (.int .u8 (nthu8_ l 0)) ∧ w'.cell? ⟨ad.block, ad.off + 1, none⟩ = some (.int .u8 (nthu8_ l 1))) (first | exact ⟨x0, x1⟩) (fail)
    go_wp2_with (first | (go_at_call 78; refine (impl_within _ _ _ _).mono ?_; rintro e w' ⟨rfl, rfl⟩; rw [HIN.out]))
    go_ret2
    exact ⟨⟨none, 0, 0, by rw [HNO.out] <;> rfl, fun h => by rw [HNO.out] at h; cases h⟩, by (repeat (first | (with_reducible exact HB.out) | (with_reducible refine below_alloc ?_ _) | (with_reducible refine below_drew1 ?_) | (with_reducible refine pw_below_drewN ?_ _)))⟩

end Go.Proofs.Ytjlhdhbnaagajaa.J
