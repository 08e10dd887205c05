/- The reference's l3Records. -/
import Derived.Test.YtjlhdhbnaagajaaSpecD
namespace Go.Proofs.Ytjlhdhbnaagajaa.J
open Go.RowKit Go.Proofs.YtjlhdhbnaagajaaW.PrintWords Go.Proofs.YtjlhdhbnaagajaaW.PrintLast Go.Proofs.YtjlhdhbnaagajaaW.PrintMore
set_option linter.unusedVariables false
set_option linter.unusedSimpArgs false

/-! Rows of bytes. -/
abbrev kRow : Kd (List Int) := Kd.slice 5 (Kd.int .u8)
theorem inforow : (Try.prog.info? 23).map (fun i => (i.zero, i.size, i.bytes)) = some (some (.slice none 0 0), 1, 24) := by kernel_rfl
theorem cell_add {w : World} {ad : Addr} {j : Nat} {v : Option Value} (hj : j ≠ 0) (h : w.cell? (ad.add j) = v) : w.cell? ⟨ad.block, ad.off + j, none⟩ = v := by simpa [Addr.add, hj] using h
theorem wrap_fits {a : Int} (h0 : -9223372036854775808 ≤ a) (h1 : a < 9223372036854775808) : IntKind.i64.wrap a = a := by simp [IntKind.wrap, IntKind.bits, IntKind.signed]; omega
set_option maxRecDepth 100000 in
set_option maxHeartbeats 3200000 in
theorem spec_l3Records (A : Option Addr) (c : Nat) (l : List Int) (w : World) (hC : Kd.C (Kd.int .u8) w A l.length l) (hlc : l.length ≤ c) (hl : l.length ≤ 1099511627776) (hb : Bytes l) : Calls Try.prog 57 #[.slice A l.length c] w fun e w' => (∃ B d, e = .returned (.tuple #[.slice B (recs l).1.length d, .int .i64 (recs l).2]) ∧ (recs l).1.length ≤ d ∧ Kd.C kRow w' B (recs l).1.length (recs l).1) ∧ Below w.heap.size w w' := by
  have HC := Aside0.mk hC; have HY := Aside0.mk hb; clear hC hb
  have HB := Aside0.mk (Below.refl w.heap.size w)
  go_enter Try.func57, Try.ntmps57
  go_wp2_with (first | ((with_reducible refine gate_dst (N := 8) rfl ?_); refine Kd.S_lit kRow w.heap.size 23 ?hg (N := 8) ?hd (xs := ([] : List (List Int))) (inner := []) (ok := fun _ => True) (okp := fun _ => True) ?hr ?hp (fun _ hk => hk) trivial (Below.refl _ _) (Nat.le_refl _) (by simp) ?_; (case hd => rfl); (case hg => rfl); (case hr => first | (go_simp; done) | (go_simp; rfl)); (case hp => exact (Reps.none _ _)); intro v0 w2 ho hb hg_ hnew_; have HO := Aside0.mk ho; have HB1 := Aside0.mk hb; clear HB; have HB := HB1; clear HB1 ho hb hg_ hnew_))
  go_loopg [4, 5] l.length (fun n v4 v5 w' => ∃ (i : Nat), v5 = .int .i64 i ∧ i ≤ l.length ∧ Aside0 (l.length ≤ n + i ∧ ∃ xs, Kd.S kRow 23 w' w.heap.size (fun _ => True) v4 xs ∧ xs ++ (recsFrom l n i).1 = (recs l).1 ∧ (recsFrom l n i).2 = (recs l).2 ∧ 5 * xs.length ≤ i ∧ Below w.heap.size w w'))
  case atStart => exact ⟨0, rfl, by omega, ⟨by omega, [], HO.out, rfl, rfl, by simp, HB.out⟩⟩
  case round =>
    clear HO HB
    obtain ⟨i, rfl, hil, ⟨HN, xs, HO, HX, HU, H5, HB⟩⟩ := hrel
    obtain ⟨B, d, e4, hd, hK⟩ := Kd.S_reads HO
    subst e4
    have HK := Aside0.mk hK; clear hK
    replace HN := Aside0.mk HN; replace HX := Aside0.mk HX; replace HU := Aside0.mk HU; replace HO := Aside0.mk HO; replace HB := Aside0.mk HB; replace H5 := Aside0.mk H5
    by_cases h4 : i + 4 < l.length
    · obtain ⟨ad, e0, x0⟩ := nthu8 HC.out i (by omega)
      subst e0
      obtain ⟨_, e1, x1⟩ := nthu8 HC.out (i + 1) (by omega)
      cases e1
      obtain ⟨_, e2, x2⟩ := nthu8 HC.out (i + 2) (by omega)
      cases e2
      obtain ⟨_, e3, x3⟩ := nthu8 HC.out (i + 3) (by omega)
      cases e3
      replace x0 := x0 _ HB.out
      replace x1 : wr.cell? ⟨ad.block, ad.off + (i + 1), none⟩ = some (.int .u8 (nthu8_ l (i + 1))) := cell_add (by omega) (x1 _ HB.out)
      replace x2 : wr.cell? (ad.add ((i : Int) + 2).toNat) = some (.int .u8 (nthu8_ l (i + 2))) := by rw [show ((i : Int) + 2).toNat = i + 2 by omega]; exact x2 _ HB.out
      replace x3 : wr.cell? (ad.add ((i : Int) + 3).toNat) = some (.int .u8 (nthu8_ l (i + 3))) := by rw [show ((i : Int) + 3).toNat = i + 3 by omega]; exact x3 _ HB.out
      have j0 : (i : Int) < (l.length : Int) := by omega
      have j1 : (i : Int) + 1 < (l.length : Int) := by omega
      have j2 : (i : Int) + 2 < (l.length : Int) := by omega
      have j3 : (i : Int) + 3 < (l.length : Int) := by omega
      have w1 : IntKind.i64.wrap ((i : Int) + 1) = (i : Int) + 1 := wrap_fits (by omega) (by omega)
      have w2 : IntKind.i64.wrap ((i : Int) + 2) = (i : Int) + 2 := wrap_fits (by omega) (by omega)
      have w3 : IntKind.i64.wrap ((i : Int) + 3) = (i : Int) + 3 := wrap_fits (by omega) (by omega)
      have w4 : IntKind.i64.wrap ((i : Int) + 4) = (i : Int) + 4 := wrap_fits (by omega) (by omega)
      have n1 : (0 : Int) ≤ (i : Int) + 1 := by omega
      have n2 : (0 : Int) ≤ (i : Int) + 2 := by omega
      have n3 : (0 : Int) ≤ (i : Int) + 3 := by omega
      have b0 := (HY.out i).1; have b0' := (HY.out i).2
      have b1 := (HY.out (i + 1)).1; have b1' := (HY.out (i + 1)).2
      have b2 := (HY.out (i + 2)).1; have b2' := (HY.out (i + 2)).2
      have b3 := (HY.out (i + 3)).1; have b3' := (HY.out (i + 3)).2
      have v2 : IntKind.i64.wrap (nthu8_ l (i + 2)) = nthu8_ l (i + 2) := wrap_fits (by omega) (by omega)
      have v3 : IntKind.i64.wrap (nthu8_ l (i + 3)) = nthu8_ l (i + 3) := wrap_fits (by omega) (by omega)
      have v4 : IntKind.i64.wrap (nthu8_ l (i + 2) * 256) = nthu8_ l (i + 2) * 256 := wrap_fits (by omega) (by omega)
      have v5 : IntKind.i64.wrap (nthu8_ l (i + 2) * 256 + nthu8_ l (i + 3)) = nthu8_ l (i + 2) * 256 + nthu8_ l (i + 3) := wrap_fits (by omega) (by omega)
      obtain ⟨N, hN⟩ : ∃ N : Nat, nthu8_ l i * 256 + nthu8_ l (i + 1) = N := ⟨_, (Int.toNat_of_nonneg (by omega)).symm⟩
      have hR : recLen l i = N := by rw [recLen, hN]; rfl
      by_cases g1 : 1 ≤ N
      · by_cases g2 : N ≤ 500
        · by_cases g3 : i + 4 + N ≤ l.length
          · obtain ⟨Ac, hcut, hcC, hcl⟩ := cutMid (some ad) c l ((i : Int) + 4) ((i : Int) + 4 + (N : Int)) (i + 4) (i + 4 + N) (by omega) (by omega) (by omega) g3 hlc
            have HCM := Aside0.mk (Kd.C_below (hcC _ HC.out) HB.out)
            have HCM' := Aside0.mk (hcC _ HC.out); clear hcC
            by_cases gc : checkOf (mid l (i + 4) (i + 4 + N)) = nthu8_ l (i + 2) * 256 + nthu8_ l (i + 3)
            · have hyes : recOk l i = true := by simp [recOk, recFits, recOf, hR, h4, g1, g2, g3, gc]
              have tc : (checkOf (mid l (i + 4) (i + 4 + N)) != nthu8_ l (i + 2) * 256 + nthu8_ l (i + 3)) = false := by simpa using gc
              clear gc
              obtain ⟨n, rfl⟩ : ∃ n, gk = n + 1 := ⟨gk - 1, by have := HN.out; omega⟩
              have hml : (mid l (i + 4) (i + 4 + N)).length = N := by rw [mid_len _ _ _ g3]; omega
              have HX2 : Aside0 ((xs ++ [(mid l (i + 4) (i + 4 + N))]) ++ (recsFrom l n (i + 4 + N)).1 = (recs l).1 ∧ (recsFrom l n (i + 4 + N)).2 = (recs l).2) := ⟨by rw [← HX.out, recsFrom_yes l n i hyes, hR, recOf, hR]; simp, by rw [← HU.out, recsFrom_yes l n i hyes, hR]⟩
              have HML := Aside0.mk hml; clear hml hyes
              go_wp2
              go_region_held3 (fun w' => w'.cell? (ad.add i) = some (.int .u8 (nthu8_ l i)) ∧ w'.cell? ⟨ad.block, ad.off + (i + 1), none⟩ = some (.int .u8 (nthu8_ l (i + 1)))) (first | exact ⟨x0, x1⟩) (fail)
              go_wp2
              go_region_held3 (fun w' => w'.cell? (ad.add ((i : Int) + 2).toNat) = some (.int .u8 (nthu8_ l (i + 2))) ∧ w'.cell? (ad.add ((i : Int) + 3).toNat) = some (.int .u8 (nthu8_ l (i + 3)))) (first | exact ⟨x2, x3⟩) (first | (go_at_call 103; refine (spec_CheckOf _ _ (mid l (i + 4) (i + 4 + N)) _ ?hc hcl ?hm (HY.out.mid _ _)).mono ?_; (case hc => (repeat (first | (with_reducible exact HCM.out) | (with_reducible refine Kd.C_drew ?_) | (with_reducible refine Kd.C_drewN ?_ _)))); (case hm => rw [mid_len _ _ _ g3]; omega); rintro e w' ⟨rfl, rfl⟩))
              go_wp2_with (first | ((with_reducible refine gate_dst (N := 68) rfl ?_); go_must (refine Kd.R_lit (Kd.int .u8) _ 5 ?hg (N := 68) ?hd (xs := ([] : List Int)) (inner := []) (ok := fun _ => True) (okp := fun _ => True) ?hr ?hp (fun _ hk => hk) trivial (Below.refl _ _) (Nat.le_refl _) (by simp) ?_; (case hd => rfl); (case hg => rfl); (case hr => first | (go_simp; done) | (go_simp; rfl)); (case hp => exact (Reps.none _ _)); intro vL w2 ho hb hg_ hnew_; clear hg_ hnew_; have n0 : Aside0 (Kd.S kRow 23 w2 w.heap.size (fun k => True ∧ some k ≠ vL.ownBlock) (.slice B xs.length d) xs) := ⟨Kd.S_elder' (by (with_reducible repeat (first | apply Kd.S_drewN | apply Kd.S_drew)); exact HO.out) (Kd.R_base ho) hb⟩; have n1 : Aside0 (Kd.R (Kd.int .u8) 5 w2 w.heap.size (fun _ => True) vL []) := ⟨Kd.R_lower ho HB.out.size⟩; have n2 : Aside0 (Below w.heap.size w w2) := ⟨below_step (by (repeat (first | (with_reducible exact HB.out) | (with_reducible refine below_alloc ?_ _) | (with_reducible refine below_drew1 ?_) | (with_reducible refine pw_below_drewN ?_ _)))) hb⟩; clear HO HB ho hb; have HO := n0; have HOL := n1; have HB := n2; clear n0 n1 n2)) | ((with_reducible refine gate_builtin (b := .append) (xs := #[.tmp 68, .tmp 69]) rfl ?_); at_builtin; go_must (refine Kd.R_append_rows (Kd.int .u8) (w0 := w) w.heap.size rfl (.tmp 68) (.tmp 69) 23 5 (.int .u8 0) 1 rfl Try.underlying23 infou8 rfl (by decide) (by omega) vL ([] : List Int) (mid l (i + 4) (i + 4 + N)) _ _ _ (fun _ => True) (fun _ => False) rfl rfl ?aO ?aR (fun _ _ h => h) (fun _ h => h.elim) ?aF ?aB ?aS ?aL ?_; (case aR => exact Kd.C_below HCM'.out HB.out); (case aB => exact HB.out); (case aF => exact (fun _ _ => trivial)); (case aO => exact HOL.out); (case aS => exact HB.out.size); (case aL => have := HML.out; rw [HML.out]; simp; omega); intro vR w3 ho hb hg hat; rw [List.nil_append] at ho; have n0 := Aside0.mk (Kd.S_after (ok := (fun _ => True)) HO.out hg hat); have n1 := Aside0.mk hb; have n2 := Aside0.mk ho; clear HO HB HOL; have HO := n0; have HB := n1; have HOR := n2; clear n0 n1 n2 ho hb hg hat; obtain ⟨Ao, co, eo⟩ := Kd.R_slice HOR.out; subst eo)) | ((with_reducible refine gate_builtin (b := .append) (xs := #[.tmp 67, .tmp 71]) rfl ?_); at_builtin; go_must (refine Kd.S_append kRow (w0 := w) w.heap.size rfl (.tmp 67) (.tmp 71) 69 23 (.slice none 0 0) 24 rfl Try.underlying69 inforow rfl (by decide) (by omega) (.slice B xs.length d) xs (mid l (i + 4) (i + 4 + N)) [.slice Ao (mid l (i + 4) (i + 4 + N)).length co] (fun _ => True) (fun k_ => some k_ = (.slice Ao (mid l (i + 4) (i + 4 + N)).length co : Value).ownBlock) rfl rfl ?aP (fun k_ hk_ => ((Kd.R_mono (ok' := fun k_ => ((fun _ => True)) k_ ∧ some k_ ≠ (Value.slice B xs.length d).ownBlock) (Kd.R_apart' (HOR.out) (Kd.S_typed HO.out) (by decide)) (fun k_ hk => ⟨trivial, hk.2⟩))).1 k_ hk_.symm) ?aF ?aO ?aB ?aS ?aL ?_; (case aP => exact Kd.M_row (Kd.R_mono (Kd.R_tight rfl (Kd.R_mono (ok' := fun k_ => ((fun _ => True)) k_ ∧ some k_ ≠ (Value.slice B xs.length d).ownBlock) (Kd.R_apart' (HOR.out) (Kd.S_typed HO.out) (by decide)) (fun k_ hk => ⟨trivial, hk.2⟩))) (fun _ h_ => h_))); (case aB => exact HB.out); (case aF => exact (fun _ _ => trivial)); (case aO => exact Kd.S_mono HO.out (fun k_ hk => ⟨trivial, fun e_ => hk.2 e_⟩)); (case aS => exact HB.out.size); (case aL => have := H5.out; omega); intro vS w4 ho hb hg hat; have n0 := Aside0.mk hb; have n1 := Aside0.mk ho; clear HB HO HOR; have HB := n0; have HO := n1; clear n0 n1 ho hb hg hat)))
              go_roundg n
              case measure => omega
              case rel => exact ⟨i + 4 + N, by go_num, by omega, ⟨by have := HN.out; omega, _, HO.out, HX2.out.1, HX2.out.2, by have := H5.out; simp; omega, HB.out⟩⟩
            · have tc : (checkOf (mid l (i + 4) (i + 4 + N)) != nthu8_ l (i + 2) * 256 + nthu8_ l (i + 3)) = true := by simpa using gc
              have hno : recOk l i = false := by simp [recOk, recOf, hR, gc]
              clear gc
              have HR : Aside0 ((recs l).1 = xs ∧ (recs l).2 = i) := ⟨by rw [← HX.out, recsFrom_no l _ i hno]; simp, by rw [← HU.out, recsFrom_no l _ i hno]⟩
              go_wp2
              go_region_held3 (fun w' => w'.cell? (ad.add i) = some (.int .u8 (nthu8_ l i)) ∧ w'.cell? ⟨ad.block, ad.off + (i + 1), none⟩ = some (.int .u8 (nthu8_ l (i + 1)))) (first | exact ⟨x0, x1⟩) (fail)
              go_wp2
              go_region_held3 (fun w' => w'.cell? (ad.add ((i : Int) + 2).toNat) = some (.int .u8 (nthu8_ l (i + 2))) ∧ w'.cell? (ad.add ((i : Int) + 3).toNat) = some (.int .u8 (nthu8_ l (i + 3)))) (first | exact ⟨x2, x3⟩) (first | (go_at_call 103; refine (spec_CheckOf _ _ (mid l (i + 4) (i + 4 + N)) _ ?hc hcl ?hm (HY.out.mid _ _)).mono ?_; (case hc => (repeat (first | (with_reducible exact HCM.out) | (with_reducible refine Kd.C_drew ?_) | (with_reducible refine Kd.C_drewN ?_ _)))); (case hm => rw [mid_len _ _ _ g3]; omega); rintro e w' ⟨rfl, rfl⟩))
              go_wp2
              go_ret2
              exact ⟨⟨B, d, by rw [HR.out.1, HR.out.2] <;> rfl, by rw [HR.out.1]; exact hd, by rw [HR.out.1]; (repeat (first | (with_reducible exact HK.out) | (with_reducible refine Kd.C_drew ?_) | (with_reducible refine Kd.C_drewN ?_ _)))⟩, by (repeat (first | (with_reducible exact HB.out) | (with_reducible refine below_alloc ?_ _) | (with_reducible refine below_drew1 ?_) | (with_reducible refine pw_below_drewN ?_ _)))⟩
          · have g3' : ¬ (i + (4 + N) ≤ l.length) := by omega
            have hno : recOk l i = false := by simp [recOk, recFits, hR, g3]
            have HR : Aside0 ((recs l).1 = xs ∧ (recs l).2 = i) := ⟨by rw [← HX.out, recsFrom_no l _ i hno]; simp, by rw [← HU.out, recsFrom_no l _ i hno]⟩
            go_wp2
            go_region_held3 (fun w' => w'.cell? (ad.add i) = some (.int .u8 (nthu8_ l i)) ∧ w'.cell? ⟨ad.block, ad.off + (i + 1), none⟩ = some (.int .u8 (nthu8_ l (i + 1)))) (first | exact ⟨x0, x1⟩) (fail)
            go_wp2
            go_ret2
            exact ⟨⟨B, d, by rw [HR.out.1, HR.out.2] <;> rfl, by rw [HR.out.1]; exact hd, by rw [HR.out.1]; (repeat (first | (with_reducible exact HK.out) | (with_reducible refine Kd.C_drew ?_) | (with_reducible refine Kd.C_drewN ?_ _)))⟩, by (repeat (first | (with_reducible exact HB.out) | (with_reducible refine below_alloc ?_ _) | (with_reducible refine below_drew1 ?_) | (with_reducible refine pw_below_drewN ?_ _)))⟩
        · have hno : recOk l i = false := by simp [recOk, recFits, hR, g2]
          have HR : Aside0 ((recs l).1 = xs ∧ (recs l).2 = i) := ⟨by rw [← HX.out, recsFrom_no l _ i hno]; simp, by rw [← HU.out, recsFrom_no l _ i hno]⟩
          go_wp2
          go_region_held3 (fun w' => w'.cell? (ad.add i) = some (.int .u8 (nthu8_ l i)) ∧ w'.cell? ⟨ad.block, ad.off + (i + 1), none⟩ = some (.int .u8 (nthu8_ l (i + 1)))) (first | exact ⟨x0, x1⟩) (fail)
          go_wp2
          go_ret2
          exact ⟨⟨B, d, by rw [HR.out.1, HR.out.2] <;> rfl, by rw [HR.out.1]; exact hd, by rw [HR.out.1]; (repeat (first | (with_reducible exact HK.out) | (with_reducible refine Kd.C_drew ?_) | (with_reducible refine Kd.C_drewN ?_ _)))⟩, by (repeat (first | (with_reducible exact HB.out) | (with_reducible refine below_alloc ?_ _) | (with_reducible refine below_drew1 ?_) | (with_reducible refine pw_below_drewN ?_ _)))⟩
      · have hno : recOk l i = false := by simp [recOk, recFits, hR, g1]
        have HR : Aside0 ((recs l).1 = xs ∧ (recs l).2 = i) := ⟨by rw [← HX.out, recsFrom_no l _ i hno]; simp, by rw [← HU.out, recsFrom_no l _ i hno]⟩
        go_wp2
        go_region_held3 (fun w' => w'.cell? (ad.add i) = some (.int .u8 (nthu8_ l i)) ∧ w'.cell? ⟨ad.block, ad.off + (i + 1), none⟩ = some (.int .u8 (nthu8_ l (i + 1)))) (first | exact ⟨x0, x1⟩) (fail)
        go_wp2
        go_ret2
        exact ⟨⟨B, d, by rw [HR.out.1, HR.out.2] <;> rfl, by rw [HR.out.1]; exact hd, by rw [HR.out.1]; (repeat (first | (with_reducible exact HK.out) | (with_reducible refine Kd.C_drew ?_) | (with_reducible refine Kd.C_drewN ?_ _)))⟩, by (repeat (first | (with_reducible exact HB.out) | (with_reducible refine below_alloc ?_ _) | (with_reducible refine below_drew1 ?_) | (with_reducible refine pw_below_drewN ?_ _)))⟩
    · have hno : recOk l i = false := by simp [recOk, recFits, h4]
      have HR : Aside0 ((recs l).1 = xs ∧ (recs l).2 = i) := ⟨by rw [← HX.out, recsFrom_no l _ i hno]; simp, by rw [← HU.out, recsFrom_no l _ i hno]⟩
      go_wp2
      go_ret2
      exact ⟨⟨B, d, by rw [HR.out.1, HR.out.2] <;> rfl, by rw [HR.out.1]; exact hd, by rw [HR.out.1]; (repeat (first | (with_reducible exact HK.out) | (with_reducible refine Kd.C_drew ?_) | (with_reducible refine Kd.C_drewN ?_ _)))⟩, by (repeat (first | (with_reducible exact HB.out) | (with_reducible refine below_alloc ?_ _) | (with_reducible refine below_drew1 ?_) | (with_reducible refine pw_below_drewN ?_ _)))⟩

end Go.Proofs.Ytjlhdhbnaagajaa.J
