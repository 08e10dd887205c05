/- The program's UnframeAll. -/
import Derived.Test.YtjlhdhbnaagajaaImplF
namespace Go.Proofs.Ytjlhdhbnaagajaa.J
open Go.RowKit Go.Proofs.YtjlhdhbnaagajaaW.PrintWords Go.Proofs.YtjlhdhbnaagajaaW.PrintLast Go.Proofs.YtjlhdhbnaagajaaW.PrintMore
set_option linter.unusedVariables false
set_option linter.unusedSimpArgs false
def impl_UnframeAll_R7.T : Bool × List (List Nat × List Nat) := (true, [([], []), ([0], [0]), ([], []), ([2], [2]), ([3], [3]), ([1, 4, 3], [1, 4]), ([0, 1, 2, 3, 4, 5], []), ([6, 5, 5, 0, 1, 2, 3, 4, 5], [5, 6])])
def impl_UnframeAll_R7.B : List Nat := [0, 1, 0, 4, 12, 31, 63, 127]
theorem impl_UnframeAll_R7.tab : rtab .any (opsOf Try.f63 7) = impl_UnframeAll_R7.T := by kernel_rfl
theorem impl_UnframeAll_R7.bits : waitsOk impl_UnframeAll_R7.T.2 impl_UnframeAll_R7.B = true := by kernel_rfl
def impl_UnframeAll_R8.T : Bool × List (List Nat × List Nat) := (true, [([], []), ([0], [0]), ([], []), ([2], [2]), ([3], [3]), ([1, 4], [1, 4]), ([0, 1, 2, 3, 4, 5], []), ([6, 5, 3, 0, 1, 2, 3, 4, 5], [5, 6])])
def impl_UnframeAll_R8.B : List Nat := [0, 1, 0, 4, 12, 31, 63, 127]
theorem impl_UnframeAll_R8.tab : rtab .any (opsOf Try.f63 8) = impl_UnframeAll_R8.T := by kernel_rfl
theorem impl_UnframeAll_R8.bits : waitsOk impl_UnframeAll_R8.T.2 impl_UnframeAll_R8.B = true := by kernel_rfl

set_option maxRecDepth 100000 in
set_option maxHeartbeats 3200000 in
theorem impl_UnframeAll (A : Option Addr) (c : Nat) (l : List Int) (w : World) (hC : Kd.C (Kd.int .u8) w A l.length l) (hlc : l.length ≤ c) (hl : l.length ≤ 6000) (hb : Bytes l) : Calls Try.prog 63 #[.slice A l.length c] w fun e w' => (∃ v, e = .returned (.agg #[.int .i64 0, .int .i64 (recs l).2, v]) ∧ Kd.S kRow 23 w' w.heap.size (fun _ => True) v (recs l).1) ∧ Below w.heap.size w w' := by
  have HC := Aside0.mk hC; have HY := Aside0.mk hb; clear hC hb
  have HB := Aside0.mk (Below.refl w.heap.size w)
  have hu := Try.underlying71
  go_enter Try.func63, Try.ntmps63
  go_wp2
  go_loopg [] l.length (fun n w' => ∃ (i : Nat) (v : Value) (xs : List (List Int)), Aside0 (l.length ≤ n + i ∧ i ≤ l.length ∧ xs ++ (recsFrom l n i).1 = (recs l).1 ∧ (recsFrom l n i).2 = (recs l).2 ∧ 5 * xs.length ≤ i ∧ Kd.S kRow 23 w' w.heap.size (fun q => w.heap.size + 2 ≤ q) v xs ∧ w'.heap[w.heap.size]? = some (.cells #[.int .i64 0, .int .i64 0, .slice none 0 0] 71 (0, 0)) ∧ w'.heap[w.heap.size + 1]? = some (.cells #[.int .i64 0, .int .i64 i, v] 71 (0, 0)) ∧ Below w.heap.size w w'))
  case atStart => exact ⟨0, .slice none 0 0, [], ⟨by omega, by omega, rfl, rfl, by simp, Kd.S_nil _ _ _ _ _, blk_alloc (blk_new _ _) _, blk_new1 _ _ _, by (repeat (first | (with_reducible exact HB.out) | (with_reducible refine below_alloc ?_ _) | (with_reducible refine below_drew1 ?_) | (with_reducible refine pw_below_drewN ?_ _)))⟩⟩
  case round =>
    clear HB
    obtain ⟨i, v, xs, ⟨HN, hil, HX, HU, H5, HO, BR, BC, HB⟩⟩ := hrel
    obtain ⟨Av, dv, ev, hdv, _⟩ := Kd.S_reads HO
    subst ev
    replace HN := Aside0.mk HN; replace HX := Aside0.mk HX; replace HU := Aside0.mk HU; replace H5 := Aside0.mk H5; replace HO := Aside0.mk HO; replace BR := Aside0.mk BR; replace BC := Aside0.mk BC; replace HB := Aside0.mk HB
    have HZ : Aside0 (w.heap.size + 2 ≤ wr.heap.size) := ⟨by have := blk_lt BC.out; omega⟩
    have hz0 : w.heap.size < wr.heap.size := by have := HZ.out; omega
    have hz1 : w.heap.size + 1 < wr.heap.size := by have := HZ.out; omega
    obtain ⟨Ac, hcut, hcC, hcl⟩ := cutFrom A c l (i : Int) i rfl hil hlc
    have hdl : (l.drop i).length ≤ 6000 ∧ Bytes (l.drop i) ∧ recOk (l.drop i) 0 = recOk l i ∧ recOf (l.drop i) 0 = recOf l i := ⟨by simp; omega, fun k => by rw [nth_drop]; exact HY.out _, recOk_drop l i, recOf_drop l i⟩
    obtain ⟨E, hE⟩ : ∃ E, l.drop i = E := ⟨_, rfl⟩
    rw [hE] at hcut hcC hcl hdl
    have HCM := Aside0.mk (Kd.C_below (hcC _ HC.out) HB.out); clear hcC hE
    have HDL := Aside0.mk hdl; clear hdl
    have c1 := (blk_cell BC.out 1).trans rfl
    have c0 := (blk_cell BC.out 0).trans rfl
    have c2 := (blk_cell BC.out 2).trans rfl
    cases hok : recOk l i with
    | false =>
      have HOK := Aside0.mk hok
      have HR : Aside0 ((recs l).1 = xs ∧ (recs l).2 = i) := ⟨by rw [← HX.out, recsFrom_no l _ i hok]; simp, by rw [← HU.out, recsFrom_no l _ i hok]⟩
      clear hok
      go_wp2_with (first | (go_at_call 107; go_must (refine (impl_unframe _ _ E _ HCM.out hcl HDL.out.1 HDL.out.2.1).mono ?_; rintro e W1 ⟨⟨Ar, nr, cr, rfl, hr⟩, hbw⟩; rw [HDL.out.2.2.1, HOK.out]; have BR1 := Aside0.mk (blk_below BR.out hbw); have BC1 := Aside0.mk (blk_below BC.out hbw); have HO1 := Aside0.mk (Kd.S_below HO.out hbw); have HB1 := Aside0.mk (below_step HB.out hbw); have d0 := (blk_cell BC1.out 0).trans rfl; have d1 := (blk_cell BC1.out 1).trans rfl; have d2 := (blk_cell BC1.out 2).trans rfl; have q0 := (blk_cell BR1.out 0).trans rfl; have q1 := (blk_cell BR1.out 1).trans rfl; have q2 := (blk_cell BR1.out 2).trans rfl; have f0 := blk_frozen BR1.out 0; have f1 := blk_frozen BR1.out 1; have f2 := blk_frozen BR1.out 2; clear hbw hr)))
      refine bodyPost_ret (results_cell_row rfl _ _ w.heap.size 71 #[.int .i64 0, .int .i64 i, .slice Av xs.length dv] (0, 0) _ rfl (blk_put (cs := #[.int .i64 0, .int .i64 i, .slice none 0 0]) (cs' := #[.int .i64 0, .int .i64 i, .slice Av xs.length dv]) (blk_put (cs := #[.int .i64 0, .int .i64 0, .slice none 0 0]) (cs' := #[.int .i64 0, .int .i64 i, .slice none 0 0]) (blk_put (cs := #[.int .i64 0, .int .i64 0, .slice none 0 0]) (cs' := #[.int .i64 0, .int .i64 0, .slice none 0 0]) BR1.out 0 _ rfl) 1 _ rfl) 2 _ rfl) Try.underlying71 rfl (by kernel_rfl)) rfl ?_
      exact ⟨⟨.slice Av xs.length dv, by rw [HR.out.2] <;> rfl, by rw [HR.out.1]; exact Kd.S_mono (Kd.S_far (Kd.S_far (Kd.S_far HO1.out (fun q hq => by show q ≠ w.heap.size; omega) _) (fun q hq => by show q ≠ w.heap.size; omega) _) (fun q hq => by show q ≠ w.heap.size; omega) _) (fun _ _ => trivial)⟩, below_set (below_set (below_set HB1.out (Nat.le_refl _)) (Nat.le_refl _)) (Nat.le_refl _)⟩
    | true =>
      have hfit := recOk_fits hok
      obtain ⟨n, rfl⟩ : ∃ n, gk = n + 1 := ⟨gk - 1, by have := HN.out; omega⟩
      have HOK := Aside0.mk hok
      have hrl : (recOf l i).length = recLen l i := by rw [recOf, mid_len _ _ _ hfit.2.2.2]; omega
      have HRR := Aside0.mk hrl
      have HX2 : Aside0 ((xs ++ [recOf l i]) ++ (recsFrom l n (i + 4 + recLen l i)).1 = (recs l).1 ∧ (recsFrom l n (i + 4 + recLen l i)).2 = (recs l).2) := ⟨by rw [← HX.out, recsFrom_yes l n i hok]; simp, by rw [← HU.out, recsFrom_yes l n i hok]⟩
      have HFIT := Aside0.mk hfit
      obtain ⟨Y, hY⟩ : ∃ Y, xs ++ [recOf l i] = Y := ⟨_, rfl⟩
      have HYY := Aside0.mk hY
      rw [hY] at HX2
      have HYL : Aside0 (Y.length = xs.length + 1) := ⟨by rw [← hY]; simp⟩
      clear hY
      have HRL : Aside0 ((recOf l i).length ≤ 1099511627776) := ⟨by rw [hrl]; omega⟩
      have r500 : (recOf l i).length ≤ 500 := by rw [hrl]; exact hfit.2.2.1
      clear hok hfit hrl
      go_wp2_with (first | (go_at_call 107; go_must (refine (impl_unframe _ _ E _ HCM.out hcl HDL.out.1 HDL.out.2.1).mono ?_; rintro e W1 ⟨⟨Ar, nr, cr, rfl, hr⟩, hbw⟩; rw [HDL.out.2.2.1, HOK.out] at hr ⊢; rw [HDL.out.2.2.2] at hr; obtain ⟨rfl, hrc, hCR⟩ := hr rfl; have n0 := Aside0.mk (blk_below BR.out hbw); have n1 := Aside0.mk (blk_below BC.out hbw); have n2 := Aside0.mk (Kd.S_below HO.out hbw); have n3 := Aside0.mk (below_step HB.out hbw); have n4 : Aside0 (w.heap.size + 2 ≤ W1.heap.size) := ⟨by have := HZ.out; have := hbw.size; omega⟩; have HCR := Aside0.mk hCR; clear BR BC HO HB HZ hbw hCR hz0 hz1 c0 c1 c2 HCM; have BR := n0; have BC := n1; have HO := n2; have HB := n3; have HZ := n4; clear n0 n1 n2 n3 n4; have hz0 : w.heap.size < W1.heap.size := (by have := HZ.out; omega); have hz1 : w.heap.size + 1 < W1.heap.size := (by have := HZ.out; omega))))
      obtain ⟨wr, rfl⟩ : ∃ wr : World, wr = W1 := ⟨_, rfl⟩
      refine start_ (n := 8) (S := fun w' => w'.cell? ⟨w.heap.size + 1, 2, none⟩ = some (.slice Av xs.length dv)) (ds := [7]) #[false, false, false, false, false, false, false, false] (by kernel_rfl) rfl rfl ((blk_cell (blk_drew BC.out) 2).trans rfl) (fun hHeld => ?_)
      refine with_tabW impl_UnframeAll_R7.tab impl_UnframeAll_R7.bits (fun HT_ HW_ => ?_)
      refine pure_ (i := 0) (N := some 22) (v := ?_) (a' := ?_) #[true, false, false, false, false, false, false, false] rfl rfl (any_of HT_.out (by kernel_rfl)) (fun _ _ _ h => h) (Or.inl ⟨by rfl, ?_⟩) ?_ ?_
      rotate_left
      · intro w'
        go_simp
        with_reducible rfl
      rotate_left
      · simp only [Act.put, List.setIfInBounds_toArray, List.set_cons_zero, List.set_cons_succ]
        rfl
      refine pure_ (i := 2) (N := some 24) (v := ?_) (a' := ?_) #[true, false, true, false, false, false, false, false] rfl rfl (any_of HT_.out (by kernel_rfl)) (fun _ _ _ h => h) (Or.inl ⟨by rfl, ?_⟩) ?_ ?_
      rotate_left
      · intro w'
        go_simp
        with_reducible rfl
      rotate_left
      · simp only [Act.put, List.setIfInBounds_toArray, List.set_cons_zero, List.set_cons_succ]
        rfl
      refine take_ (i := 1) (N := some 23) (v := ?_) (a' := ?_) #[true, true, true, false, false, false, false, false] rfl rfl (take_ofW HT_.out HW_.out (by kernel_rfl)) (fun _ _ _ h => h) (Or.inl ⟨by rfl, ?_⟩) hHeld ?_ ?_
      rotate_left
      · rintro w' s0
        go_simp
        with_reducible rfl
      rotate_left
      · simp only [Act.put, List.setIfInBounds_toArray, List.set_cons_zero, List.set_cons_succ]
        rfl
      refine one_ (i := 3) (N := some 25) #[true, true, true, true, false, false, false, false] rfl rfl (one_of HT_.out (by kernel_rfl)) (by decide) (fun K hK => ?_)
      refine goes_ Try.func108 (by kernel_rfl) rfl #[.slice Ar (recOf l i).length cr] (by rfl) rfl rfl (by (try simp only [List.map_toArray, List.map_cons, List.map_nil]); first | done | rfl) ?_
      refine (bytes_Clone _ _ (recOf l i) _ (Kd.C_drew HCR.out) ?side1).mono ?_
      (case side1 => exact HRL.out)
      rintro e W1 ⟨⟨vc, rfl, ho⟩, hbw⟩
      obtain ⟨Ao, co, eo⟩ := Kd.R_slice ho
      subst eo
      have HE1 := Aside0.mk (Kd.R_bound ho)
      have BR1 := Aside0.mk (blk_below (blk_drew BR.out) hbw)
      have BC1 := Aside0.mk (blk_below (blk_drew BC.out) hbw)
      have HO1 := Aside0.mk (Kd.S_old (Kd.S_drew HO.out) hbw)
      have HB1 := Aside0.mk (below_step (below_drew1 HB.out) hbw)
      have hz1 : wr.heap.size ≤ W1.heap.size := hbw.size
      clear hbw ho
      refine ⟨_, rfl, ?_⟩
      refine hK.out _ _ ((blk_cell BC1.out 2).trans rfl) (fun hHeld => ?_)
      clear hK K
      refine norm_ (a' := ?_) ?_ ?_
      rotate_left
      · show Act.put _ (some 25) _ = _
        simp only [Act.put, List.setIfInBounds_toArray, List.set_cons_zero, List.set_cons_succ]
        rfl
      refine one_ (i := 4) (N := some 26) #[true, true, true, true, true, false, false, false] rfl rfl (one_of HT_.out (by kernel_rfl)) (by decide) (fun K hK => ?_)
      refine value_ (w1 := W1.alloc (.cells #[.slice Ao (recOf l i).length co] 23)) (v := .slice (some ⟨W1.heap.size, 0, none⟩) 1 1) (by rfl) rfl ?_ ?_
      · first | (go_simp; done) | (go_simp; rfl) | (go_simp; constructor <;> rfl)
      refine hK.out _ _ ((blk_cell (blk_alloc BC1.out _) 2).trans rfl) (fun hHeld => ?_)
      clear hK K
      refine norm_ (a' := ?_) ?_ ?_
      rotate_left
      · show Act.put _ (some 26) _ = _
        simp only [Act.put, List.setIfInBounds_toArray, List.set_cons_zero, List.set_cons_succ]
        rfl
      refine one_ (i := 5) (N := some 27) #[true, true, true, true, true, true, false, false] rfl rfl (one_of HT_.out (by kernel_rfl)) (by decide) (fun K hK => ?_)
      refine Kd.S_append_step kRow (w0 := w) w.heap.size (by rfl) (.tmp 23) (.tmp 26) 69 23 (.slice none 0 0) 24 rfl Try.underlying69 inforow rfl (by decide) (by omega) (.slice Av xs.length dv) xs (recOf l i) [.slice Ao (recOf l i).length co] (fun q => w.heap.size + 2 ≤ q) (fun q => wr.heap.size ≤ q ∧ q < W1.heap.size) rfl rfl ?aP ?aK ?aF ?aO ?aB ?aS ?aL ?_
      (case aP => exact Kd.M_row (Kd.R_lower (Kd.R_mono HE1.out (fun q hq => ⟨by have := hq.2.1; simpa using this, hq.2.2.1⟩)) (below_drew1 HB.out).size))
      (case aK => exact fun q hq => ⟨by have := HZ.out; omega, fun he => by have := (Kd.S_R HO1.out).1 q he.symm; simp at this; omega⟩)
      (case aF => intro q hq; have := HZ.out; omega)
      (case aO => exact Kd.S_mono HO1.out (fun q hq => ⟨hq.1, fun h => by have := hq.2; simp at this; omega⟩))
      (case aB => exact HB1.out)
      (case aS => exact HB1.out.size)
      (case aL => have := H5.out; omega)
      intro v1 W2 ho hb hg hat
      rw [HYY.out] at ho
      have BR2 := Aside0.mk (blk_grown BR1.out hg (fun he => by have := (Kd.S_R HO1.out).1 _ he.symm; omega))
      have BC2 := Aside0.mk (blk_grown BC1.out hg (fun he => by have := (Kd.S_R HO1.out).1 _ he.symm; omega))
      have hz2 : W1.heap.size ≤ W2.heap.size := hg.size
      have HB2 := Aside0.mk hb
      have HO2 := Aside0.mk ho
      obtain ⟨A2, d2, e2⟩ := Kd.S_slice HO2.out
      subst e2
      clear ho hb hg hat
      refine hK.out _ _ ((blk_cell BC2.out 2).trans rfl) (fun hHeld => ?_)
      clear hK K
      refine norm_ (a' := ?_) ?_ ?_
      rotate_left
      · show Act.put _ (some 27) _ = _
        simp only [Act.put, List.setIfInBounds_toArray, List.set_cons_zero, List.set_cons_succ]
        rfl
      refine pure_ (i := 6) (N := some 28) (v := ?_) (a' := ?_) #[true, true, true, true, true, true, true, false] rfl rfl (any_of HT_.out (by kernel_rfl)) (fun _ _ _ h => h) (Or.inl ⟨by rfl, ?_⟩) ?_ ?_
      rotate_left
      · intro w'
        go_simp
        with_reducible rfl
      rotate_left
      · simp only [Act.put, List.setIfInBounds_toArray, List.set_cons_zero, List.set_cons_succ]
        rfl
      refine last_ (i := 7) (N := none) #[true, true, true, true, true, true, true, true] rfl rfl (one_of HT_.out (by kernel_rfl)) (by decide) (fun K hK => ?_)
      have hs7 := (blk_cell BC2.out 2).trans rfl
      have hf7 := blk_frozen BC2.out 2
      refine skip_ (w1 := ?_) (by rfl) rfl ?_ ?_
      rotate_left
      · go_simp
        rfl
      refine hK.out _ _ ?_
      clear hK K
      refine done_ (done_of HT_.out (by kernel_rfl)) ?_
      have BC3 := Aside0.mk (blk_put (cs := #[.int .i64 0, .int .i64 i, .slice Av xs.length dv]) (cs' := #[.int .i64 0, .int .i64 i, .slice A2 Y.length d2]) BC2.out 2 _ rfl)
      have BR3 := Aside0.mk (blk_far (p := ⟨w.heap.size + 1, 2, none⟩) BR2.out (by simp) (.slice A2 Y.length d2))
      have HO3 := Aside0.mk (Kd.S_far (p := ⟨w.heap.size + 1, 2, none⟩) HO2.out (fun q hq => by show q ≠ w.heap.size + 1; omega) (.slice A2 Y.length d2))
      have HB3 := Aside0.mk (below_set (j := 2) (v := .slice A2 Y.length d2) HB2.out (show w.heap.size ≤ w.heap.size + 1 by omega))
      have hz3 : ((W2.setCell ⟨w.heap.size + 1, 2, none⟩ (.slice A2 Y.length d2))).heap.size = W2.heap.size := by simp
      have hz4 : w.heap.size + 1 < W2.heap.size := by omega
      go_wp2
      generalize W2.setCell ⟨w.heap.size + 1, 2, none⟩ (.slice A2 Y.length d2) = W3 at BC3 BR3 HO3 HB3 hz3 ⊢
      have w1 : IntKind.i64.wrap (4 + ((recOf l i).length : Int)) = 4 + ((recOf l i).length : Int) := wrap_fits (by omega) (by omega)
      have w2 : IntKind.i64.wrap ((i : Int) + (4 + ((recOf l i).length : Int))) = (i : Int) + (4 + ((recOf l i).length : Int)) := wrap_fits (by omega) (by omega)
      refine start_ (n := 8) (S := fun w' => w'.cell? ⟨w.heap.size + 1, 1, none⟩ = some (.int .i64 i)) (ds := [7]) #[false, false, false, false, false, false, false, false] (by kernel_rfl) rfl rfl ((blk_cell (blk_drew BC3.out) 1).trans rfl) (fun hHeld => ?_)
      refine with_tabW impl_UnframeAll_R8.tab impl_UnframeAll_R8.bits (fun HT_ HW_ => ?_)
      refine pure_ (i := 0) (N := some 29) (v := ?_) (a' := ?_) #[true, false, false, false, false, false, false, false] rfl rfl (any_of HT_.out (by kernel_rfl)) (fun _ _ _ h => h) (Or.inl ⟨by rfl, ?_⟩) ?_ ?_
      rotate_left
      · intro w'
        go_simp
        with_reducible rfl
      rotate_left
      · simp only [Act.put, List.setIfInBounds_toArray, List.set_cons_zero, List.set_cons_succ]
        rfl
      refine pure_ (i := 2) (N := some 31) (v := ?_) (a' := ?_) #[true, false, true, false, false, false, false, false] rfl rfl (any_of HT_.out (by kernel_rfl)) (fun _ _ _ h => h) (Or.inl ⟨by rfl, ?_⟩) ?_ ?_
      rotate_left
      · intro w'
        go_simp
        with_reducible rfl
      rotate_left
      · simp only [Act.put, List.setIfInBounds_toArray, List.set_cons_zero, List.set_cons_succ]
        rfl
      refine take_ (i := 1) (N := some 30) (v := ?_) (a' := ?_) #[true, true, true, false, false, false, false, false] rfl rfl (take_ofW HT_.out HW_.out (by kernel_rfl)) (fun _ _ _ h => h) (Or.inl ⟨by rfl, ?_⟩) hHeld ?_ ?_
      rotate_left
      · rintro w' s0
        go_simp
        with_reducible rfl
      rotate_left
      · simp only [Act.put, List.setIfInBounds_toArray, List.set_cons_zero, List.set_cons_succ]
        rfl
      refine one_ (i := 3) (N := some 32) #[true, true, true, true, false, false, false, false] rfl rfl (one_of HT_.out (by kernel_rfl)) (by decide) (fun K hK => ?_)
      refine goes_ Try.func31 (by kernel_rfl) rfl #[.slice Ar (recOf l i).length cr] (by rfl) rfl rfl (by (try simp only [List.map_toArray, List.map_cons, List.map_nil]); first | done | rfl) ?_
      refine (impl_size_u8 _ _ _ _).mono ?_
      rintro e w' ⟨rfl, rfl⟩
      refine ⟨_, rfl, ?_⟩
      refine hK.out _ _ ((blk_cell (blk_drew BC3.out) 1).trans rfl) (fun hHeld => ?_)
      clear hK K
      refine norm_ (a' := ?_) ?_ ?_
      rotate_left
      · show Act.put _ (some 32) _ = _
        simp only [Act.put, List.setIfInBounds_toArray, List.set_cons_zero, List.set_cons_succ]
        rfl
      refine pure_ (i := 4) (N := some 33) (v := ?_) (a' := ?_) #[true, true, true, true, true, false, false, false] rfl rfl (any_of HT_.out (by kernel_rfl)) (fun _ _ _ h => h) (Or.inl ⟨by rfl, ?_⟩) ?_ ?_
      rotate_left
      · intro w'
        go_simp
        with_reducible rfl
      rotate_left
      · simp only [Act.put, List.setIfInBounds_toArray, List.set_cons_zero, List.set_cons_succ]
        rfl
      refine pure_ (i := 5) (N := some 34) (v := ?_) (a' := ?_) #[true, true, true, true, true, true, false, false] rfl rfl (any_of HT_.out (by kernel_rfl)) (fun _ _ _ h => h) (Or.inl ⟨by rfl, ?_⟩) ?_ ?_
      rotate_left
      · intro w'
        go_simp
        with_reducible rfl
      rotate_left
      · simp only [Act.put, List.setIfInBounds_toArray, List.set_cons_zero, List.set_cons_succ]
        rfl
      refine pure_ (i := 6) (N := some 35) (v := ?_) (a' := ?_) #[true, true, true, true, true, true, true, false] rfl rfl (any_of HT_.out (by kernel_rfl)) (fun _ _ _ h => h) (Or.inl ⟨by rfl, ?_⟩) ?_ ?_
      rotate_left
      · intro w'
        go_simp
        with_reducible rfl
      rotate_left
      · simp only [Act.put, List.setIfInBounds_toArray, List.set_cons_zero, List.set_cons_succ]
        rfl
      refine last_ (i := 7) (N := none) #[true, true, true, true, true, true, true, true] rfl rfl (one_of HT_.out (by kernel_rfl)) (by decide) (fun K hK => ?_)
      have hs8 := (blk_cell (blk_drew BC3.out) 1).trans rfl
      have hf8 := blk_frozen (blk_drew BC3.out) 1
      refine skip_ (w1 := ?_) (by rfl) rfl ?_ ?_
      rotate_left
      · go_simp
        rfl
      refine hK.out _ _ ?_
      clear hK K
      refine done_ (done_of HT_.out (by kernel_rfl)) ?_
      go_wp2
      go_roundg n
      case measure => omega
      case rel => exact ⟨i + 4 + recLen l i, .slice A2 Y.length d2, Y, ⟨by have := HN.out; have := HFIT.out; omega, by have := HFIT.out; omega, HX2.out.1, HX2.out.2, by have := H5.out; have := HFIT.out; have := HYL.out; omega, Kd.S_far (Kd.S_drew HO3.out) (fun q hq => by show q ≠ w.heap.size + 1; omega) _, blk_far (blk_drew BR3.out) (by simp) _, blk_put (cs' := #[.int .i64 0, .int .i64 (i + 4 + recLen l i : Nat), .slice A2 Y.length d2]) (blk_drew BC3.out) 1 _ (by rw [HRR.out]; simp [Int.add_assoc]), below_set (below_drew1 HB3.out) (by omega)⟩⟩

end Go.Proofs.Ytjlhdhbnaagajaa.J
