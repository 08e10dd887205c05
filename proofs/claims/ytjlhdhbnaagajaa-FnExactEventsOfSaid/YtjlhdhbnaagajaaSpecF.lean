/- The reference's l3Uncontract. -/
import Derived.Test.YtjlhdhbnaagajaaSpecE
namespace Go.Proofs.Ytjlhdhbnaagajaa.J
open Go.RowKit Go.Proofs.YtjlhdhbnaagajaaW.PrintWords Go.Proofs.YtjlhdhbnaagajaaW.PrintLast Go.Proofs.YtjlhdhbnaagajaaW.PrintMore
set_option linter.unusedVariables false
set_option linter.unusedSimpArgs false
def spec_l3Uncontract_R8.T : Bool × List (List Nat × List Nat) := (true, [([], []), ([0], [0]), ([], []), ([], []), ([2, 3], [2, 3]), ([4], [4]), ([5], [5]), ([], []), ([], []), ([8], [8]), ([7, 9], [7, 9]), ([10], [10]), ([11], [11]), ([], []), ([], []), ([14], [14]), ([13, 15], [13, 15]), ([16], [16]), ([17], [17]), ([], []), ([], []), ([20], [20]), ([], []), ([22], [22]), ([19, 21, 23], [19, 21, 23]), ([24], [24]), ([6, 12, 18, 25], [6, 12, 18, 25]), ([26], [26]), ([1, 27, 25], [1, 27]), ([0, 1, 2, 3, 4, 5, 6, 7, 8, 9, 10, 11, 12, 13, 14, 15, 16, 17, 18, 19, 20, 21, 22, 23, 24, 25, 26, 27, 28], []), ([29, 28, 28, 0, 1, 2, 3, 4, 5, 6, 7, 8, 9, 10, 11, 12, 13, 14, 15, 16, 17, 18, 19, 20, 21, 22, 23, 24, 25, 26, 27, 28], [28, 29])])
def spec_l3Uncontract_R8.B : List Nat := [0, 1, 0, 0, 12, 28, 60, 0, 0, 256, 896, 1920, 3968, 0, 0, 16384, 57344, 122880, 253952, 0, 0, 1048576, 0, 4194304, 16252928, 33030144, 67108860, 134217724, 268435455, 536870911, 1073741823]
theorem spec_l3Uncontract_R8.tab : rtab .any (opsOf Try.f104 8) = spec_l3Uncontract_R8.T := by kernel_rfl
theorem spec_l3Uncontract_R8.bits : waitsOk spec_l3Uncontract_R8.T.2 spec_l3Uncontract_R8.B = true := by kernel_rfl

theorem tm11 (n : Nat) (h8 : 8 ≤ n) (hm : n ≤ 9223372036854775807) : (wrap64 ((n : Int) - 8)).tmod 11 = (((n - 8) % 11 : Nat) : Int) := by
  have h1 : wrap64 ((n : Int) - 8) = ((n - 8 : Nat) : Int) := by unfold wrap64; omega
  rw [h1]; exact (Int.ofNat_tmod _ _).symm
theorem infoLeg : (Try.prog.info? 151).map (fun i => (i.zero, i.size, i.bytes)) = some (some (.agg #[.int .i64 0, .int .i64 0, .int .i64 0, .int .i64 0]), 4, 32) := by kernel_rfl
set_option maxRecDepth 100000 in
set_option maxHeartbeats 6400000 in
theorem spec_l3Uncontract (A : Option Addr) (c : Nat) (l : List Int) (w : World) (hC : Kd.C (Kd.int .u8) w A l.length l) (hlc : l.length ≤ c) (hb : Bytes l) : Calls Try.prog 104 #[.slice A l.length c] w fun e w' => (∃ (x : Contract) (v : Value), e = .returned (.tuple #[.agg #[.int .i64 x.id, v], .bool (unconOk l)]) ∧ (unconOk l = true → x = conOf l) ∧ Kd.R kLeg 151 w' w.heap.size (fun _ => True) v x.legs) ∧ Below w.heap.size w w' := by
  have HC := Aside0.mk hC; have HY := Aside0.mk hb; clear hC hb
  have HB := Aside0.mk (Below.refl w.heap.size w)
  have hu := Try.underlying75
  by_cases h8 : l.length < 8
  · skip
    have hno : unconOk l = false := by rw [unconOk, show conOk l = false from by unfold conOk; rw [decide_eq_false (by omega : ¬ 8 ≤ l.length)]; simp]; rfl
    have HNO := Aside0.mk hno; clear hno
    go_enter Try.func104, Try.ntmps104
    go_wp2
    refine bodyPost_ret (results_ct rfl _ _ w.heap.size 75 #[.int .i64 0, .slice none 0 0] (0, 0) _ rfl (blk_alloc (blk_new _ _) _) Try.underlying75 rfl (by kernel_rfl)) rfl ?_
    refine ⟨⟨⟨0, []⟩, .slice none 0 0, ?_, fun h => ?_, Kd.R_nil _ _ _ _ _⟩, by (repeat (first | (with_reducible exact HB.out) | (with_reducible refine below_alloc ?_ _) | (with_reducible refine below_drew1 ?_) | (with_reducible refine pw_below_drewN ?_ _)))⟩
    · rw [HNO.out]; rfl
    · rw [HNO.out] at h; cases h
  by_cases h11 : (l.length - 8) % 11 ≠ 0
  · have t11 : ¬ (wrap64 ((l.length : Int) - 8)).tmod 11 = 0 := by rw [tm11 _ (by omega) HC.out.2.1]; omega
    have hno : unconOk l = false := by rw [unconOk, show conOk l = false from by unfold conOk; rw [decide_eq_false h11]; simp]; rfl
    have HNO := Aside0.mk hno; clear hno
    go_enter Try.func104, Try.ntmps104
    go_wp2
    refine bodyPost_ret (results_ct rfl _ _ w.heap.size 75 #[.int .i64 0, .slice none 0 0] (0, 0) _ rfl (blk_alloc (blk_new _ _) _) Try.underlying75 rfl (by kernel_rfl)) rfl ?_
    refine ⟨⟨⟨0, []⟩, .slice none 0 0, ?_, fun h => ?_, Kd.R_nil _ _ _ _ _⟩, by (repeat (first | (with_reducible exact HB.out) | (with_reducible refine below_alloc ?_ _) | (with_reducible refine below_drew1 ?_) | (with_reducible refine pw_below_drewN ?_ _)))⟩
    · rw [HNO.out]; rfl
    · rw [HNO.out] at h; cases h
  by_cases h96 : 96 < l.length
  · have t11 : (wrap64 ((l.length : Int) - 8)).tmod 11 = 0 := by rw [tm11 _ (by omega) HC.out.2.1]; omega
    have hno : unconOk l = false := by rw [unconOk, show conOk l = false from by unfold conOk; rw [decide_eq_false (by omega : ¬ l.length ≤ 96)]; simp]; rfl
    have HNO := Aside0.mk hno; clear hno
    go_enter Try.func104, Try.ntmps104
    go_wp2
    refine bodyPost_ret (results_ct rfl _ _ w.heap.size 75 #[.int .i64 0, .slice none 0 0] (0, 0) _ rfl (blk_alloc (blk_new _ _) _) Try.underlying75 rfl (by kernel_rfl)) rfl ?_
    refine ⟨⟨⟨0, []⟩, .slice none 0 0, ?_, fun h => ?_, Kd.R_nil _ _ _ _ _⟩, by (repeat (first | (with_reducible exact HB.out) | (with_reducible refine below_alloc ?_ _) | (with_reducible refine below_drew1 ?_) | (with_reducible refine pw_below_drewN ?_ _)))⟩
    · rw [HNO.out]; rfl
    · rw [HNO.out] at h; cases h
  have t11 : (wrap64 ((l.length : Int) - 8)).tmod 11 = 0 := by rw [tm11 _ (by omega) HC.out.2.1]; omega
  obtain ⟨hct, hcC0, hcl0⟩ := cutTo A c l 8 8 rfl (by omega) hlc
  have HC0 := Aside0.mk (hcC0 _ HC.out); clear hcC0
  have hml0 : (mid l 0 8).length = 8 := by rw [mid_len _ _ _ (by omega)]
  have HML0 := Aside0.mk hml0; clear hml0
  go_enter Try.func104, Try.ntmps104
  go_wp2_with (first | (go_at_call 105; go_must (refine (spec_l3Number _ _ (mid l 0 8) _ ?hc ?hl (HY.out.mid _ _)).mono ?_; (case hc => repeat (first | (with_reducible exact HC0.out) | (with_reducible refine Kd.C_alloc ?_ _))); (case hl => exact HML0.out); rintro e w' ⟨rfl, rfl⟩)))
  go_loopg [5] ((l.length - 8) / 11) (fun n v5 w' => ∃ (m : Nat), v5 = .int .i64 m ∧ Aside0 (∃ (k : Nat) (v : Value), m = 8 + 11 * k ∧ n + k = (l.length - 8) / 11 ∧ w'.heap[w.heap.size]? = some (.cells #[.int .i64 0, .slice none 0 0] 75 (0, 0)) ∧ w'.heap[w.heap.size + 1]? = some (.cells #[.int .i64 (signed (number (mid l 0 8))), v] 75 (0, 0)) ∧ Kd.R kLeg 151 w' w.heap.size (fun q => w.heap.size + 2 ≤ q) v (legsTo l k) ∧ w.heap.size + 2 ≤ w'.heap.size ∧ Below w.heap.size w w'))
  case atStart =>
    exact ⟨8, rfl, ⟨0, .slice none 0 0, rfl, by omega, blk_alloc (blk_new _ _) _, blk_new1 _ _ _, Kd.R_nil _ _ _ _ _, by simp, by (repeat (first | (with_reducible exact HB.out) | (with_reducible refine below_alloc ?_ _) | (with_reducible refine below_drew1 ?_) | (with_reducible refine pw_below_drewN ?_ _)))⟩⟩
  case round =>
    clear HB
    obtain ⟨m, rfl, ⟨k, v, hmk, hnk, BR, BC, HO, hz, HB⟩⟩ := hrel
    replace BR := Aside0.mk BR; replace BC := Aside0.mk BC; replace HO := Aside0.mk HO; replace HB := Aside0.mk HB
    by_cases hm : m < l.length
    · have hm11 : m + 11 ≤ l.length := by omega
      obtain ⟨n, rfl⟩ : ∃ n, gk = n + 1 := ⟨gk - 1, by omega⟩
      have HMK := Aside0.mk hmk; have HNK := Aside0.mk hnk
      have HLE : Aside0 (legsTo l k ++ [(⟨nthu8_ l m, nthu8_ l (m + 1), nthu8_ l (m + 2), signed (number (mid l (m + 3) (m + 11)))⟩ : Leg)] = legsTo l (k + 1)) := ⟨by rw [legsTo_succ, legOf, ← hmk]⟩
      have hk8 : k ≤ 8 := by omega
      clear hmk hnk
      obtain ⟨ad, e0, x0⟩ := nthu8 HC.out m (by omega)
      subst e0
      obtain ⟨_, e1, x1⟩ := nthu8 HC.out (m + 1) (by omega)
      cases e1
      obtain ⟨_, e2, x2⟩ := nthu8 HC.out (m + 2) (by omega)
      cases e2
      have X0 : Aside0 (∀ w2, Below w.heap.size w w2 → w2.cell? (ad.add m) = some (.int .u8 (nthu8_ l m))) := ⟨x0⟩
      have X1 : Aside0 (∀ w2, Below w.heap.size w w2 → w2.cell? ⟨ad.block, ad.off + (m + 1), none⟩ = some (.int .u8 (nthu8_ l (m + 1)))) := ⟨fun w2 hb => cell_add (by omega) (x1 w2 hb)⟩
      have X2 : Aside0 (∀ w2, Below w.heap.size w w2 → w2.cell? (ad.add ((m : Int) + 2).toNat) = some (.int .u8 (nthu8_ l (m + 2)))) := ⟨fun w2 hb => by rw [show ((m : Int) + 2).toNat = m + 2 by omega]; exact x2 w2 hb⟩
      clear x0 x1 x2
      have b0 := (HY.out m).1; have b0' := (HY.out m).2
      have b1 := (HY.out (m + 1)).1; have b1' := (HY.out (m + 1)).2
      have b2 := (HY.out (m + 2)).1; have b2' := (HY.out (m + 2)).2
      have j0 : (m : Int) < (l.length : Int) := by omega
      have j1 : (m : Int) + 1 < (l.length : Int) := by omega
      have j2 : (m : Int) + 2 < (l.length : Int) := by omega
      have n1 : (0 : Int) ≤ (m : Int) + 1 := by omega
      have n2 : (0 : Int) ≤ (m : Int) + 2 := by omega
      have w1 : IntKind.i64.wrap ((m : Int) + 1) = (m : Int) + 1 := wrap_fits (by omega) (by omega)
      have w2 : IntKind.i64.wrap ((m : Int) + 2) = (m : Int) + 2 := wrap_fits (by omega) (by omega)
      have w3 : IntKind.i64.wrap ((m : Int) + 3) = (m : Int) + 3 := wrap_fits (by omega) (by omega)
      have w4 : IntKind.i64.wrap ((m : Int) + 11) = (m : Int) + 11 := wrap_fits (by omega) (by omega)
      have u0 : IntKind.i64.wrap (nthu8_ l m) = nthu8_ l m := wrap_fits (by omega) (by omega)
      have u1 : IntKind.i64.wrap (nthu8_ l (m + 1)) = nthu8_ l (m + 1) := wrap_fits (by omega) (by omega)
      have u2 : IntKind.i64.wrap (nthu8_ l (m + 2)) = nthu8_ l (m + 2) := wrap_fits (by omega) (by omega)
      obtain ⟨Ac, hcut, hcC, hcl⟩ := cutMid (some ad) c l ((m : Int) + 3) ((m : Int) + 11) (m + 3) (m + 11) (by omega) (by omega) (by omega) hm11 hlc
      have HCM := Aside0.mk (hcC _ HC.out); clear hcC
      have hml : (mid l (m + 3) (m + 11)).length = 8 := by rw [mid_len _ _ _ hm11]; omega
      have HML := Aside0.mk hml; clear hml
      go_wp2
      refine start_ (n := 31) (S := fun w' => w'.cell? ⟨w.heap.size + 1, 1, none⟩ = some v ∧ w'.cell? (ad.add m) = some (.int .u8 (nthu8_ l m)) ∧ w'.cell? ⟨ad.block, ad.off + (m + 1), none⟩ = some (.int .u8 (nthu8_ l (m + 1))) ∧ w'.cell? (ad.add ((m : Int) + 2).toNat) = some (.int .u8 (nthu8_ l (m + 2)))) (ds := [30]) #[false, false, false, false, false, false, false, false, false, false, false, false, false, false, false, false, false, false, false, false, false, false, false, false, false, false, false, false, false, false, false] (by kernel_rfl) rfl rfl ⟨(blk_cell (blk_drew BC.out) 1).trans rfl, X0.out _ (below_drew1 HB.out), X1.out _ (below_drew1 HB.out), X2.out _ (below_drew1 HB.out)⟩ (fun hHeld => ?_)
      refine with_tabW spec_l3Uncontract_R8.tab spec_l3Uncontract_R8.bits (fun HT_ HW_ => ?_)
      refine pure_ (i := 0) (N := some 33) (v := ?_) (a' := ?_) #[true, false, false, false, false, false, false, false, false, false, false, false, false, false, false, false, false, false, false, false, false, false, false, false, false, false, false, false, false, false, false] rfl rfl (any_of HT_.out (by kernel_rfl)) (fun _ _ _ h => h) (Or.inl ⟨by rfl, ?_⟩) ?_ ?_
      rotate_left
      · intro w'
        go_simp
        with_reducible rfl
      rotate_left
      · simp only [Act.put, List.setIfInBounds_toArray, List.set_cons_zero, List.set_cons_succ]
        rfl
      refine pure_ (i := 2) (N := some 35) (v := ?_) (a' := ?_) #[true, false, true, false, false, false, false, false, false, false, false, false, false, false, false, false, false, false, false, false, false, false, false, false, false, false, false, false, false, false, false] rfl rfl (any_of HT_.out (by kernel_rfl)) (fun _ _ _ h => h) (Or.inl ⟨by rfl, ?_⟩) ?_ ?_
      rotate_left
      · intro w'
        go_simp
        with_reducible rfl
      rotate_left
      · simp only [Act.put, List.setIfInBounds_toArray, List.set_cons_zero, List.set_cons_succ]
        rfl
      refine pure_ (i := 3) (N := some 36) (v := ?_) (a' := ?_) #[true, false, true, true, false, false, false, false, false, false, false, false, false, false, false, false, false, false, false, false, false, false, false, false, false, false, false, false, false, false, false] rfl rfl (any_of HT_.out (by kernel_rfl)) (fun _ _ _ h => h) (Or.inl ⟨by rfl, ?_⟩) ?_ ?_
      rotate_left
      · intro w'
        go_simp
        with_reducible rfl
      rotate_left
      · simp only [Act.put, List.setIfInBounds_toArray, List.set_cons_zero, List.set_cons_succ]
        rfl
      refine pure_ (i := 4) (N := some 37) (v := ?_) (a' := ?_) #[true, false, true, true, true, false, false, false, false, false, false, false, false, false, false, false, false, false, false, false, false, false, false, false, false, false, false, false, false, false, false] rfl rfl (any_of HT_.out (by kernel_rfl)) (fun _ _ _ h => h) (Or.inl ⟨by rfl, ?_⟩) ?_ ?_
      rotate_left
      · intro w'
        go_simp
        with_reducible rfl
      rotate_left
      · simp only [Act.put, List.setIfInBounds_toArray, List.set_cons_zero, List.set_cons_succ]
        rfl
      refine pure_ (i := 7) (N := some 40) (v := ?_) (a' := ?_) #[true, false, true, true, true, false, false, true, false, false, false, false, false, false, false, false, false, false, false, false, false, false, false, false, false, false, false, false, false, false, false] rfl rfl (any_of HT_.out (by kernel_rfl)) (fun _ _ _ h => h) (Or.inl ⟨by rfl, ?_⟩) ?_ ?_
      rotate_left
      · intro w'
        go_simp
        with_reducible rfl
      rotate_left
      · simp only [Act.put, List.setIfInBounds_toArray, List.set_cons_zero, List.set_cons_succ]
        rfl
      refine pure_ (i := 8) (N := some 41) (v := ?_) (a' := ?_) #[true, false, true, true, true, false, false, true, true, false, false, false, false, false, false, false, false, false, false, false, false, false, false, false, false, false, false, false, false, false, false] rfl rfl (any_of HT_.out (by kernel_rfl)) (fun _ _ _ h => h) (Or.inl ⟨by rfl, ?_⟩) ?_ ?_
      rotate_left
      · intro w'
        go_simp
        with_reducible rfl
      rotate_left
      · simp only [Act.put, List.setIfInBounds_toArray, List.set_cons_zero, List.set_cons_succ]
        rfl
      refine pure_ (i := 9) (N := some 42) (v := ?_) (a' := ?_) #[true, false, true, true, true, false, false, true, true, true, false, false, false, false, false, false, false, false, false, false, false, false, false, false, false, false, false, false, false, false, false] rfl rfl (any_of HT_.out (by kernel_rfl)) (fun _ _ _ h => h) (Or.inl ⟨by rfl, ?_⟩) ?_ ?_
      rotate_left
      · intro w'
        go_simp
        with_reducible rfl
      rotate_left
      · simp only [Act.put, List.setIfInBounds_toArray, List.set_cons_zero, List.set_cons_succ]
        rfl
      refine pure_ (i := 10) (N := some 43) (v := ?_) (a' := ?_) #[true, false, true, true, true, false, false, true, true, true, true, false, false, false, false, false, false, false, false, false, false, false, false, false, false, false, false, false, false, false, false] rfl rfl (any_of HT_.out (by kernel_rfl)) (fun _ _ _ h => h) (Or.inl ⟨by rfl, ?_⟩) ?_ ?_
      rotate_left
      · intro w'
        go_simp
        with_reducible rfl
      rotate_left
      · simp only [Act.put, List.setIfInBounds_toArray, List.set_cons_zero, List.set_cons_succ]
        rfl
      refine pure_ (i := 13) (N := some 46) (v := ?_) (a' := ?_) #[true, false, true, true, true, false, false, true, true, true, true, false, false, true, false, false, false, false, false, false, false, false, false, false, false, false, false, false, false, false, false] rfl rfl (any_of HT_.out (by kernel_rfl)) (fun _ _ _ h => h) (Or.inl ⟨by rfl, ?_⟩) ?_ ?_
      rotate_left
      · intro w'
        go_simp
        with_reducible rfl
      rotate_left
      · simp only [Act.put, List.setIfInBounds_toArray, List.set_cons_zero, List.set_cons_succ]
        rfl
      refine pure_ (i := 14) (N := some 47) (v := ?_) (a' := ?_) #[true, false, true, true, true, false, false, true, true, true, true, false, false, true, true, false, false, false, false, false, false, false, false, false, false, false, false, false, false, false, false] rfl rfl (any_of HT_.out (by kernel_rfl)) (fun _ _ _ h => h) (Or.inl ⟨by rfl, ?_⟩) ?_ ?_
      rotate_left
      · intro w'
        go_simp
        with_reducible rfl
      rotate_left
      · simp only [Act.put, List.setIfInBounds_toArray, List.set_cons_zero, List.set_cons_succ]
        rfl
      refine pure_ (i := 15) (N := some 48) (v := ?_) (a' := ?_) #[true, false, true, true, true, false, false, true, true, true, true, false, false, true, true, true, false, false, false, false, false, false, false, false, false, false, false, false, false, false, false] rfl rfl (any_of HT_.out (by kernel_rfl)) (fun _ _ _ h => h) (Or.inl ⟨by rfl, ?_⟩) ?_ ?_
      rotate_left
      · intro w'
        go_simp
        with_reducible rfl
      rotate_left
      · simp only [Act.put, List.setIfInBounds_toArray, List.set_cons_zero, List.set_cons_succ]
        rfl
      refine pure_ (i := 16) (N := some 49) (v := ?_) (a' := ?_) #[true, false, true, true, true, false, false, true, true, true, true, false, false, true, true, true, true, false, false, false, false, false, false, false, false, false, false, false, false, false, false] rfl rfl (any_of HT_.out (by kernel_rfl)) (fun _ _ _ h => h) (Or.inl ⟨by rfl, ?_⟩) ?_ ?_
      rotate_left
      · intro w'
        go_simp
        with_reducible rfl
      rotate_left
      · simp only [Act.put, List.setIfInBounds_toArray, List.set_cons_zero, List.set_cons_succ]
        rfl
      refine pure_ (i := 19) (N := some 52) (v := ?_) (a' := ?_) #[true, false, true, true, true, false, false, true, true, true, true, false, false, true, true, true, true, false, false, true, false, false, false, false, false, false, false, false, false, false, false] rfl rfl (any_of HT_.out (by kernel_rfl)) (fun _ _ _ h => h) (Or.inl ⟨by rfl, ?_⟩) ?_ ?_
      rotate_left
      · intro w'
        go_simp
        with_reducible rfl
      rotate_left
      · simp only [Act.put, List.setIfInBounds_toArray, List.set_cons_zero, List.set_cons_succ]
        rfl
      refine pure_ (i := 20) (N := some 53) (v := ?_) (a' := ?_) #[true, false, true, true, true, false, false, true, true, true, true, false, false, true, true, true, true, false, false, true, true, false, false, false, false, false, false, false, false, false, false] rfl rfl (any_of HT_.out (by kernel_rfl)) (fun _ _ _ h => h) (Or.inl ⟨by rfl, ?_⟩) ?_ ?_
      rotate_left
      · intro w'
        go_simp
        with_reducible rfl
      rotate_left
      · simp only [Act.put, List.setIfInBounds_toArray, List.set_cons_zero, List.set_cons_succ]
        rfl
      refine pure_ (i := 21) (N := some 54) (v := ?_) (a' := ?_) #[true, false, true, true, true, false, false, true, true, true, true, false, false, true, true, true, true, false, false, true, true, true, false, false, false, false, false, false, false, false, false] rfl rfl (any_of HT_.out (by kernel_rfl)) (fun _ _ _ h => h) (Or.inl ⟨by rfl, ?_⟩) ?_ ?_
      rotate_left
      · intro w'
        go_simp
        with_reducible rfl
      rotate_left
      · simp only [Act.put, List.setIfInBounds_toArray, List.set_cons_zero, List.set_cons_succ]
        rfl
      refine pure_ (i := 22) (N := some 55) (v := ?_) (a' := ?_) #[true, false, true, true, true, false, false, true, true, true, true, false, false, true, true, true, true, false, false, true, true, true, true, false, false, false, false, false, false, false, false] rfl rfl (any_of HT_.out (by kernel_rfl)) (fun _ _ _ h => h) (Or.inl ⟨by rfl, ?_⟩) ?_ ?_
      rotate_left
      · intro w'
        go_simp
        with_reducible rfl
      rotate_left
      · simp only [Act.put, List.setIfInBounds_toArray, List.set_cons_zero, List.set_cons_succ]
        rfl
      refine pure_ (i := 23) (N := some 56) (v := ?_) (a' := ?_) #[true, false, true, true, true, false, false, true, true, true, true, false, false, true, true, true, true, false, false, true, true, true, true, true, false, false, false, false, false, false, false] rfl rfl (any_of HT_.out (by kernel_rfl)) (fun _ _ _ h => h) (Or.inl ⟨by rfl, ?_⟩) ?_ ?_
      rotate_left
      · intro w'
        go_simp
        with_reducible rfl
      rotate_left
      · simp only [Act.put, List.setIfInBounds_toArray, List.set_cons_zero, List.set_cons_succ]
        rfl
      refine pure_ (i := 24) (N := some 57) (v := ?_) (a' := ?_) #[true, false, true, true, true, false, false, true, true, true, true, false, false, true, true, true, true, false, false, true, true, true, true, true, true, false, false, false, false, false, false] rfl rfl (any_of HT_.out (by kernel_rfl)) (fun _ _ _ h => h) (Or.inl ⟨by rfl, ?_⟩) ?_ ?_
      rotate_left
      · intro w'
        go_simp
        with_reducible rfl
      rotate_left
      · simp only [Act.put, List.setIfInBounds_toArray, List.set_cons_zero, List.set_cons_succ]
        rfl
      refine take_ (i := 1) (N := some 34) (v := ?_) (a' := ?_) #[true, true, true, true, true, false, false, true, true, true, true, false, false, true, true, true, true, false, false, true, true, true, true, true, true, false, false, false, false, false, false] rfl rfl (take_ofW HT_.out HW_.out (by kernel_rfl)) (fun _ _ _ h => h) (Or.inl ⟨by rfl, ?_⟩) hHeld ?_ ?_
      rotate_left
      · rintro w' ⟨s0, s1, s2, s3⟩
        go_simp
        with_reducible rfl
      rotate_left
      · simp only [Act.put, List.setIfInBounds_toArray, List.set_cons_zero, List.set_cons_succ]
        rfl
      refine take_ (i := 5) (N := some 38) (v := ?_) (a' := ?_) #[true, true, true, true, true, true, false, true, true, true, true, false, false, true, true, true, true, false, false, true, true, true, true, true, true, false, false, false, false, false, false] rfl rfl (take_ofW HT_.out HW_.out (by kernel_rfl)) (fun _ _ _ h => h) (Or.inl ⟨by rfl, ?_⟩) hHeld ?_ ?_
      rotate_left
      · rintro w' ⟨s0, s1, s2, s3⟩
        go_simp
        with_reducible rfl
      rotate_left
      · simp only [Act.put, List.setIfInBounds_toArray, List.set_cons_zero, List.set_cons_succ]
        rfl
      refine pure_ (i := 6) (N := some 39) (v := ?_) (a' := ?_) #[true, true, true, true, true, true, true, true, true, true, true, false, false, true, true, true, true, false, false, true, true, true, true, true, true, false, false, false, false, false, false] rfl rfl (any_of HT_.out (by kernel_rfl)) (fun _ _ _ h => h) (Or.inl ⟨by rfl, ?_⟩) ?_ ?_
      rotate_left
      · intro w'
        go_simp
        with_reducible rfl
      rotate_left
      · simp only [Act.put, List.setIfInBounds_toArray, List.set_cons_zero, List.set_cons_succ]
        rfl
      refine take_ (i := 11) (N := some 44) (v := ?_) (a' := ?_) #[true, true, true, true, true, true, true, true, true, true, true, true, false, true, true, true, true, false, false, true, true, true, true, true, true, false, false, false, false, false, false] rfl rfl (take_ofW HT_.out HW_.out (by kernel_rfl)) (fun _ _ _ h => h) (Or.inl ⟨by rfl, ?_⟩) hHeld ?_ ?_
      rotate_left
      · rintro w' ⟨s0, s1, s2, s3⟩
        go_simp
        with_reducible rfl
      rotate_left
      · simp only [Act.put, List.setIfInBounds_toArray, List.set_cons_zero, List.set_cons_succ]
        rfl
      refine pure_ (i := 12) (N := some 45) (v := ?_) (a' := ?_) #[true, true, true, true, true, true, true, true, true, true, true, true, true, true, true, true, true, false, false, true, true, true, true, true, true, false, false, false, false, false, false] rfl rfl (any_of HT_.out (by kernel_rfl)) (fun _ _ _ h => h) (Or.inl ⟨by rfl, ?_⟩) ?_ ?_
      rotate_left
      · intro w'
        go_simp
        with_reducible rfl
      rotate_left
      · simp only [Act.put, List.setIfInBounds_toArray, List.set_cons_zero, List.set_cons_succ]
        rfl
      refine take_ (i := 17) (N := some 50) (v := ?_) (a' := ?_) #[true, true, true, true, true, true, true, true, true, true, true, true, true, true, true, true, true, true, false, true, true, true, true, true, true, false, false, false, false, false, false] rfl rfl (take_ofW HT_.out HW_.out (by kernel_rfl)) (fun _ _ _ h => h) (Or.inl ⟨by rfl, ?_⟩) hHeld ?_ ?_
      rotate_left
      · rintro w' ⟨s0, s1, s2, s3⟩
        go_simp
        with_reducible rfl
      rotate_left
      · simp only [Act.put, List.setIfInBounds_toArray, List.set_cons_zero, List.set_cons_succ]
        rfl
      refine pure_ (i := 18) (N := some 51) (v := ?_) (a' := ?_) #[true, true, true, true, true, true, true, true, true, true, true, true, true, true, true, true, true, true, true, true, true, true, true, true, true, false, false, false, false, false, false] rfl rfl (any_of HT_.out (by kernel_rfl)) (fun _ _ _ h => h) (Or.inl ⟨by rfl, ?_⟩) ?_ ?_
      rotate_left
      · intro w'
        go_simp
        with_reducible rfl
      rotate_left
      · simp only [Act.put, List.setIfInBounds_toArray, List.set_cons_zero, List.set_cons_succ]
        rfl
      refine one_ (i := 25) (N := some 58) #[true, true, true, true, true, true, true, true, true, true, true, true, true, true, true, true, true, true, true, true, true, true, true, true, true, true, false, false, false, false, false] rfl rfl (one_of HT_.out (by kernel_rfl)) (by decide) (fun K hK => ?_)
      refine goes_ Try.func105 (by kernel_rfl) rfl #[.slice Ac (mid l (m + 3) (m + 11)).length (c - (m + 3))] (by rfl) rfl rfl (by (try simp only [List.map_toArray, List.map_cons, List.map_nil]); first | done | rfl) ?_
      refine (spec_l3Number _ _ (mid l (m + 3) (m + 11)) _ ?side1 ?side2 (HY.out.mid _ _)).mono ?_
      (case side1 => exact Kd.C_below HCM.out (below_drew1 HB.out))
      (case side2 => exact HML.out)
      rintro e w' ⟨rfl, rfl⟩
      refine ⟨_, rfl, ?_⟩
      refine hK.out _ _ ⟨(blk_cell (blk_drew BC.out) 1).trans rfl, X0.out _ (below_drew1 HB.out), X1.out _ (below_drew1 HB.out), X2.out _ (below_drew1 HB.out)⟩ (fun hHeld => ?_)
      clear hK K
      refine norm_ (a' := ?_) ?_ ?_
      rotate_left
      · show Act.put _ (some 58) _ = _
        simp only [Act.put, List.setIfInBounds_toArray, List.set_cons_zero, List.set_cons_succ]
        rfl
      refine pure_ (i := 26) (N := some 59) (v := ?_) (a' := ?_) #[true, true, true, true, true, true, true, true, true, true, true, true, true, true, true, true, true, true, true, true, true, true, true, true, true, true, true, false, false, false, false] rfl rfl (any_of HT_.out (by kernel_rfl)) (fun _ _ _ h => h) (Or.inl ⟨by rfl, ?_⟩) ?_ ?_
      rotate_left
      · intro w'
        go_simp
        with_reducible rfl
      rotate_left
      · simp only [Act.put, List.setIfInBounds_toArray, List.set_cons_zero, List.set_cons_succ]
        rfl
      refine one_ (i := 27) (N := some 60) #[true, true, true, true, true, true, true, true, true, true, true, true, true, true, true, true, true, true, true, true, true, true, true, true, true, true, true, true, false, false, false] rfl rfl (one_of HT_.out (by kernel_rfl)) (by decide) (fun K hK => ?_)
      refine value_ (w1 := wr.drew.alloc (.cells #[.int .i64 (nthu8_ l m), .int .i64 (nthu8_ l (m + 1)), .int .i64 (nthu8_ l (m + 2)), .int .i64 (signed (number (mid l (m + 3) (m + 11))))] 151)) (v := .slice (some ⟨wr.heap.size, 0, none⟩) 1 1) (by rfl) rfl ?_ ?_
      · first | (go_simp; done) | (go_simp; rfl) | (go_simp; constructor <;> rfl)
      refine hK.out _ _ ⟨(blk_cell (blk_alloc (blk_drew BC.out) _) 1).trans rfl, X0.out _ (below_alloc (below_drew1 HB.out) _), X1.out _ (below_alloc (below_drew1 HB.out) _), X2.out _ (below_alloc (below_drew1 HB.out) _)⟩ (fun hHeld => ?_)
      clear hK K
      refine norm_ (a' := ?_) ?_ ?_
      rotate_left
      · show Act.put _ (some 60) _ = _
        simp only [Act.put, List.setIfInBounds_toArray, List.set_cons_zero, List.set_cons_succ]
        rfl
      refine one_ (i := 28) (N := some 61) #[true, true, true, true, true, true, true, true, true, true, true, true, true, true, true, true, true, true, true, true, true, true, true, true, true, true, true, true, true, false, false] rfl rfl (one_of HT_.out (by kernel_rfl)) (by decide) (fun K hK => ?_)
      refine Kd.R_append_step kLeg (w0 := w) w.heap.size (by rfl) (.tmp 34) (.tmp 60) 73 151 (.agg #[.int .i64 0, .int .i64 0, .int .i64 0, .int .i64 0]) 32 rfl Try.underlying73 infoLeg rfl (by decide) (by omega) v (legsTo l k) (⟨nthu8_ l m, nthu8_ l (m + 1), nthu8_ l (m + 2), signed (number (mid l (m + 3) (m + 11)))⟩ : Leg) [.int .i64 (nthu8_ l m), .int .i64 (nthu8_ l (m + 1)), .int .i64 (nthu8_ l (m + 2)), .int .i64 (signed (number (mid l (m + 3) (m + 11))))] (fun q => w.heap.size + 2 ≤ q) (fun _ => False) rfl rfl ?aP (fun _ hk => hk.elim) ?aF ?aO ?aB ?aS ?aL ?_
      (case aP => exact kLeg_mkM (⟨nthu8_ l m, nthu8_ l (m + 1), nthu8_ l (m + 2), signed (number (mid l (m + 3) (m + 11)))⟩ : Leg))
      (case aB => exact below_drew1 HB.out)
      (case aF => intro q hq; have h1 : wr.heap.size ≤ q := hq; omega)
      (case aO => exact Kd.R_drew HO.out)
      (case aS => have h1 := HB.out.size; exact h1)
      (case aL => rw [legsTo_len]; omega)
      intro v1 W1 ho hb hg hat
      rw [HLE.out] at ho
      have BR1 := Aside0.mk (blk_grown (blk_drew BR.out) hg (own_far HO.out (by omega)))
      have BC1 := Aside0.mk (blk_grown (blk_drew BC.out) hg (own_far HO.out (by omega)))
      have hz1 : wr.heap.size ≤ W1.heap.size := hg.size
      have HB1 := Aside0.mk hb
      have HO1 := Aside0.mk ho
      obtain ⟨A1, d1, e1⟩ := Kd.R_slice HO1.out
      subst e1
      clear ho hb hg hat
      refine hK.out _ _ ⟨(blk_cell BC1.out 1).trans rfl, X0.out _ HB1.out, X1.out _ HB1.out, X2.out _ HB1.out⟩ (fun hHeld => ?_)
      clear hK K
      refine norm_ (a' := ?_) ?_ ?_
      rotate_left
      · show Act.put _ (some 61) _ = _
        simp only [Act.put, List.setIfInBounds_toArray, List.set_cons_zero, List.set_cons_succ]
        rfl
      refine pure_ (i := 29) (N := some 62) (v := ?_) (a' := ?_) #[true, true, true, true, true, true, true, true, true, true, true, true, true, true, true, true, true, true, true, true, true, true, true, true, true, true, true, true, true, true, false] rfl rfl (any_of HT_.out (by kernel_rfl)) (fun _ _ _ h => h) (Or.inl ⟨by rfl, ?_⟩) ?_ ?_
      rotate_left
      · intro w'
        go_simp
        with_reducible rfl
      rotate_left
      · simp only [Act.put, List.setIfInBounds_toArray, List.set_cons_zero, List.set_cons_succ]
        rfl
      refine last_ (i := 30) (N := none) #[true, true, true, true, true, true, true, true, true, true, true, true, true, true, true, true, true, true, true, true, true, true, true, true, true, true, true, true, true, true, true] rfl rfl (one_of HT_.out (by kernel_rfl)) (by decide) (fun K hK => ?_)
      have hs36 := (blk_cell BC1.out 1).trans rfl
      have hf36 := blk_frozen BC1.out 1
      refine skip_ (w1 := ?_) (by rfl) rfl ?_ ?_
      rotate_left
      · go_simp
        rfl
      refine hK.out _ _ ?_
      clear hK K
      refine done_ (done_of HT_.out (by kernel_rfl)) ?_
      go_wp2
      go_roundg n
      case measure => omega
      case rel => exact ⟨m + 11, by go_num, ⟨k + 1, .slice A1 (legsTo l (k + 1)).length d1, by have := HMK.out; omega, by have := HNK.out; omega, blk_far BR1.out (by simp) _, blk_put BC1.out 1 _ rfl, Kd.R_far HO1.out (fun q hq => by show q ≠ w.heap.size + 1; omega) _, by simp; omega, below_set HB1.out (by omega)⟩⟩
    · have hcon : conOf l = (⟨signed (number (mid l 0 8)), legsTo l k⟩ : Contract) := by rw [conOf, show (l.length - 8) / 11 = k by omega]
      have hk8 : k ≤ 8 := by omega
      have HUO : Aside0 (unconOk l = decide (contractFault (⟨signed (number (mid l 0 8)), legsTo l k⟩ : Contract) = 0)) := ⟨by rw [unconOk, hcon, show conOk l = true from by unfold conOk; rw [decide_eq_true (by omega : 8 ≤ l.length), decide_eq_true (by omega : (l.length - 8) % 11 = 0), decide_eq_true (by omega : l.length ≤ 96)]; rfl]; rfl⟩
      have HCON := Aside0.mk hcon; clear hcon hmk hnk
      obtain ⟨A1, d1, e1, hd1, hC1⟩ := Kd.R_reads HO.out
      subst e1
      have HC1 := Aside0.mk hC1; clear hC1
      go_wp2
      go_region_held3 (fun w' => w'.cell? ⟨w.heap.size + 1, 0, none⟩ = some (.int .i64 (signed (number (mid l 0 8)))) ∧ w'.cell? ⟨w.heap.size + 1, 1, none⟩ = some (.slice A1 (legsTo l k).length d1)) (first | exact ⟨(blk_cell (blk_drew BC.out) 0).trans rfl, (blk_cell (blk_drew BC.out) 1).trans rfl⟩ | exact ⟨(blk_cell BC1.out 0).trans rfl, (blk_cell BC1.out 1).trans rfl⟩ | exact ⟨(blk_cell (blk_far (blk_far BC1.out (by simp) _) (by simp) _) 0).trans rfl, (blk_cell (blk_far (blk_far BC1.out (by simp) _) (by simp) _) 1).trans rfl⟩) (first | (go_at_call 132; go_must (refine (spec_ContractFault (⟨signed (number (mid l 0 8)), legsTo l k⟩ : Contract) _ _ (kContract_mk (⟨signed (number (mid l 0 8)), legsTo l k⟩ : Contract) hd1 (Kd.C_drew HC1.out)) (by show (legsTo l k).length ≤ _; rw [legsTo_len]; omega)).mono ?_; rintro e W1 ⟨rfl, hbw⟩; have BR1 := Aside0.mk (blk_below (blk_drew BR.out) hbw); have BC1 := Aside0.mk (blk_below (blk_drew BC.out) hbw); have HO1 := Aside0.mk (Kd.R_below (Kd.R_drew HO.out) hbw); have HB1 := Aside0.mk (below_step (below_drew1 HB.out) hbw); have hc2 := (blk_cell BR1.out 0).trans rfl; have hc3 := (blk_cell BR1.out 1).trans rfl; have hf2 := blk_frozen BR1.out 0; have hf3 := blk_frozen BR1.out 1; clear hbw)))
      go_wp2
      refine bodyPost_ret (results_ct rfl _ _ w.heap.size 75 #[.int .i64 (signed (number (mid l 0 8))), .slice A1 (legsTo l k).length d1] (0, 0) _ rfl (blk_put (cs := #[.int .i64 (signed (number (mid l 0 8))), .slice none 0 0]) (cs' := #[.int .i64 (signed (number (mid l 0 8))), .slice A1 (legsTo l k).length d1]) (blk_put (cs := #[.int .i64 0, .slice none 0 0]) (cs' := #[.int .i64 (signed (number (mid l 0 8))), .slice none 0 0]) BR1.out 0 _ rfl) 1 _ rfl) Try.underlying75 rfl (by kernel_rfl)) rfl ?_
      refine ⟨⟨(⟨signed (number (mid l 0 8)), legsTo l k⟩ : Contract), _, ?_, fun _ => HCON.out.symm, Kd.R_mono (Kd.R_far (Kd.R_far HO1.out (fun q hq => by show q ≠ w.heap.size; omega) _) (fun q hq => by show q ≠ w.heap.size; omega) _) (fun _ _ => trivial)⟩, below_set (below_set HB1.out (Nat.le_refl _)) (Nat.le_refl _)⟩
      rw [HUO.out]
      rfl

end Go.Proofs.Ytjlhdhbnaagajaa.J
