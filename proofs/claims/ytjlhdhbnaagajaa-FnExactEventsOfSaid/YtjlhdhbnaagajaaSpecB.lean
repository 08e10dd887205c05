/- The reference's ContractFault. -/
import Derived.Test.YtjlhdhbnaagajaaSpecA
import Derived.StillTailTactics
namespace Go.Proofs.Ytjlhdhbnaagajaa.J
open Go.RowKit Go.Proofs.YtjlhdhbnaagajaaW.PrintWords Go.Proofs.YtjlhdhbnaagajaaW.PrintLast Go.Proofs.YtjlhdhbnaagajaaW.PrintMore
set_option linter.unusedVariables false
set_option linter.unusedSimpArgs false

theorem legsFrom_step (l : List Leg) (n i : Nat) (h1 : legFault (nthLeg_ l i) = 0) (h2 : takenAt l i = false) : legsFrom l (n + 1) i = legsFrom l n (i + 1) := by simp [legsFrom, h1, h2]
theorem legsFrom_bad (l : List Leg) (n i : Nat) (h1 : legFault (nthLeg_ l i) ≠ 0) : legsFrom l (n + 1) i = legFault (nthLeg_ l i) := by simp [legsFrom, h1]
theorem legsFrom_taken (l : List Leg) (n i : Nat) (h1 : legFault (nthLeg_ l i) = 0) (h2 : takenAt l i = true) : legsFrom l (n + 1) i = 7 := by simp [legsFrom, h1, h2]
theorem takenAt_no (l : List Leg) (i : Nat) (h : ∀ k, k < i → samePlace (nthLeg_ l k) (nthLeg_ l i) = false) : takenAt l i = false := by
  rw [takenAt, List.any_eq_false]; intro k hk; rw [List.mem_range] at hk; simp [h k hk]
theorem takenAt_yes (l : List Leg) (i k : Nat) (hk : k < i) (h : samePlace (nthLeg_ l k) (nthLeg_ l i) = true) : takenAt l i = true := by
  rw [takenAt, List.any_eq_true]; exact ⟨k, List.mem_range.2 hk, h⟩
theorem take_succ_leg (b : List Leg) (i : Nat) (h : i < b.length) : b.take (i + 1) = b.take i ++ [nthLeg_ b i] := by
  rw [List.take_succ_eq_append_getElem h]; simp [nthLeg_, h]
theorem sumOf_snoc (a : Int) (l : List Leg) (x : Leg) : sumOf a (l ++ [x]) = sumOf a l + amountOf a x := by simp [sumOf]
theorem legFault_zero {l : Leg} (h : legFault l = 0) : 0 ≤ l.asset ∧ l.asset ≤ 2 ∧ -1000000000000 ≤ l.amount ∧ l.amount ≤ 1000000000000 := by
  unfold legFault legOk inB at h
  split at h
  · rename_i h1
    simp only [Bool.and_eq_true, decide_eq_true_eq] at h1
    omega
  · omega
/-- The sums so far are small. -/
def SumsOk (l : List Leg) (i : Nat) : Prop := ∀ a, -(1000000000000 * (i : Int)) ≤ sumOf a (l.take i) ∧ sumOf a (l.take i) ≤ 1000000000000 * (i : Int)
theorem SumsOk.step {l : List Leg} {i : Nat} (hi : i < l.length) (h : SumsOk l i) (hl : legFault (nthLeg_ l i) = 0) : SumsOk l (i + 1) := by
  intro a
  have := h a
  have hb := legFault_zero hl
  rw [take_succ_leg l i hi, sumOf_snoc]
  unfold amountOf
  split <;> omega
def nths (l : List Leg) (i : Nat) : List Int := [sumOf 0 (l.take i), sumOf 1 (l.take i), sumOf 2 (l.take i)]
theorem amountOf_eq (a : Int) (l : Leg) (h : l.asset = a) : amountOf a l = l.amount := by simp [amountOf, h]
theorem amountOf_ne (a : Int) (l : Leg) (h : l.asset ≠ a) : amountOf a l = 0 := by simp [amountOf, h]
theorem nths_set (l : List Leg) (i a : Nat) (ha : a < 3) (hi : i < l.length) (h : (nthLeg_ l i).asset = a) : (nths l i).set a (sumOf a (l.take i) + (nthLeg_ l i).amount) = nths l (i + 1) := by
  unfold nths
  rw [take_succ_leg l i hi]
  simp only [sumOf_snoc]
  obtain rfl | rfl | rfl : a = 0 ∨ a = 1 ∨ a = 2 := by omega
  · rw [amountOf_eq 0 _ h, amountOf_ne 1 _ (by omega), amountOf_ne 2 _ (by omega)]; simp
  · rw [amountOf_eq 1 _ h, amountOf_ne 0 _ (by omega), amountOf_ne 2 _ (by omega)]; simp
  · rw [amountOf_eq 2 _ h, amountOf_ne 1 _ (by omega), amountOf_ne 0 _ (by omega)]; simp
set_option maxRecDepth 100000 in
set_option maxHeartbeats 1600000 in
theorem spec_ContractFault (x : Contract) (cx : List Value) (w : World) (hx : kContract.K w x cx) (hl : x.legs.length ≤ 1099511627776) : Calls Try.prog 132 #[.agg cx.toArray] w fun e w' => e = .returned (.int .i64 (contractFault x)) ∧ Below w.heap.size w w' := by
  obtain ⟨A1, c1, rfl, l1, g1⟩ := kContract_open hx
  have G1 := Aside0.mk g1; clear g1 hx
  have hu := Try.underlying75
  have hv := Try.underlying151
  have HB := Aside0.mk (Below.refl w.heap.size w)
  cases hid : isId x.id
  · have HF : Aside0 (contractFault x = 3) := ⟨by simp [contractFault, hid]⟩
    go_enter Try.func132, Try.ntmps132
    go_wp2_with (first | (go_at_call 133; refine (spec_l1Id _ _).mono ?_; rintro e w' ⟨rfl, rfl⟩))
    go_ret
    exact ⟨ret_int HF.out.symm, by (repeat (first | (with_reducible exact HB.out) | (with_reducible refine below_alloc ?_ _) | (with_reducible refine below_drew1 ?_) | (with_reducible refine pw_below_drewN ?_ _)))⟩
  by_cases h2 : x.legs.length < 2
  · have HF : Aside0 (contractFault x = 2) := ⟨by simp [contractFault, hid, h2]⟩
    have t2 : decide ((x.legs.length : Int) < 2) = true := by simp; omega
    go_enter Try.func132, Try.ntmps132
    go_wp2_with (first | (go_at_call 133; refine (spec_l1Id _ _).mono ?_; rintro e w' ⟨rfl, rfl⟩))
    go_ret
    exact ⟨ret_int HF.out.symm, by (repeat (first | (with_reducible exact HB.out) | (with_reducible refine below_alloc ?_ _) | (with_reducible refine below_drew1 ?_) | (with_reducible refine pw_below_drewN ?_ _)))⟩
  have t2 : decide ((x.legs.length : Int) < 2) = false := by simp; omega
  by_cases h8 : 8 < x.legs.length
  · have HF : Aside0 (contractFault x = 2) := ⟨by simp [contractFault, hid, h2, h8]⟩
    have t8 : decide ((8 : Int) < (x.legs.length : Int)) = true := by simp; omega
    go_enter Try.func132, Try.ntmps132
    go_wp2_with (first | (go_at_call 133; refine (spec_l1Id _ _).mono ?_; rintro e w' ⟨rfl, rfl⟩))
    go_ret
    exact ⟨ret_int HF.out.symm, by (repeat (first | (with_reducible exact HB.out) | (with_reducible refine below_alloc ?_ _) | (with_reducible refine below_drew1 ?_) | (with_reducible refine pw_below_drewN ?_ _)))⟩
  have t8 : decide ((8 : Int) < (x.legs.length : Int)) = false := by simp; omega
  have HF : Aside0 (contractFault x = legsOf x.legs) := ⟨by simp [contractFault, hid, h2, h8]⟩
  have hl8 : x.legs.length ≤ 8 := by omega
  clear h2 h8
  go_enter Try.func132, Try.ntmps132
  go_wp2_with (first | (go_at_call 133; refine (spec_l1Id _ _).mono ?_; rintro e w' ⟨rfl, rfl⟩) | ((with_reducible refine gate_dst (N := 24) rfl ?_); go_must (refine Kd.R_make (Kd.int .i64) (w.heap.size + 1) 2 rfl (N := 24) rfl 88 _ _ rfl 3 rfl rfl Try.underlying88 (.int .i64 0) 8 infoi64 rfl (by decide) (by omega) 0 (ok := fun _ => True) (okp := fun _ => True) rfl (fun _ hk => hk) trivial (by omega) (by decide) (Below.refl _ _) (by simp) ?_; intro vs w4 ho hb hg_ hnew_; obtain ⟨gs, cs, hvs, hgs, hgl, _⟩ := Kd.R_form ho (by simp); simp only [List.length_replicate, Int.reduceToNat] at hvs; subst hvs; have HO : Aside0 (Kd.R (Kd.int .i64) 2 w4 (w.heap.size + 1) (fun _ => True) (.slice (some ⟨gs, 0, none⟩) 3 cs) (nths x.legs 0)) := ⟨ho⟩; have HBW : Aside0 (Below w.heap.size w w4) := ⟨(below_alloc (Below.refl w.heap.size w) _).trans (hb.mono (by omega))⟩; have hq0 := hb.cell (p := ⟨w.heap.size, 0, none⟩) (by simp); have hq1 := hb.cell (p := ⟨w.heap.size, 1, none⟩) (by simp); simp [World.cell?_alloc_past] at hq0 hq1; clear ho hb hg_ hnew_ HB)))
  go_loopg [4] x.legs.length (fun n v4 w' => ∃ i : Nat, v4 = .int .i64 i ∧ Aside0 (n + i = x.legs.length ∧ legsFrom x.legs n i = legsFrom x.legs x.legs.length 0 ∧ SumsOk x.legs i ∧ Kd.R (Kd.int .i64) 2 w' (w.heap.size + 1) (fun _ => True) (.slice (some ⟨gs, 0, none⟩) 3 cs) (nths x.legs i) ∧ Below (w.heap.size + 1) w4 w'))
  case atStart => exact ⟨0, rfl, ⟨by omega, rfl, fun a => by simp [sumOf], HO.out, Below.refl _ _⟩⟩
  case round =>
    clear HO
    obtain ⟨i, rfl, ⟨HN, HL, HS, HO, HB⟩⟩ := hrel
    have r1 := (HB.cell (p := ⟨w.heap.size, 1, none⟩) (by simp)).trans hq1
    have HW : Aside0 (Below w.heap.size w wr) := ⟨HBW.out.trans (HB.mono (by omega))⟩
    have hzr : w.heap.size < wr.heap.size := Nat.lt_of_lt_of_le (World.block_lt_of_cell? w4 _ hq1) HB.size
    replace HN := Aside0.mk HN; replace HL := Aside0.mk HL; replace HS := Aside0.mk HS; replace HO := Aside0.mk HO; replace HB := Aside0.mk HB
    by_cases hi : i < x.legs.length
    · obtain ⟨n, rfl⟩ : ∃ n, gk = n + 1 := ⟨gk - 1, by have := HN.out; omega⟩
      obtain ⟨ad, e0, x0⟩ := nthLeg G1.out i hi
      subst e0
      have X0 := Aside0.mk x0; clear x0
      obtain ⟨y0, y1, y2, y3⟩ := X0.out _ HW.out
      by_cases hf : legFault (nthLeg_ x.legs i) = 0
      · have t0 : (legFault (nthLeg_ x.legs i) != 0) = false := by simpa using hf
        have hbd := legFault_zero hf
        have HFz := Aside0.mk hf
        have HBD := Aside0.mk hbd
        clear hf hbd
        go_wp2_with (first | (go_at_call 150; go_must (refine (spec_LegFault (nthLeg_ x.legs i) _).mono ?_; rintro e W1 ⟨rfl, hbw⟩; have hsz := hbw.size; simp at hsz; have hz1 : wr.heap.size < W1.heap.size := (by omega); have hl0 := hbw.cell (p := ⟨wr.heap.size, 0, none⟩) (by simp); have hl1_ := hbw.cell (p := ⟨wr.heap.size, 1, none⟩) (by simp); have hl2 := hbw.cell (p := ⟨wr.heap.size, 2, none⟩) (by simp); have hl3 := hbw.cell (p := ⟨wr.heap.size, 3, none⟩) (by simp); simp [World.cell?_alloc_past] at hl0 hl1_ hl2 hl3; have HW1 : Aside0 (Below w.heap.size w W1) := ⟨below_step (below_alloc HW.out _) hbw⟩; have HB1 : Aside0 (Below (w.heap.size + 1) w4 W1) := ⟨(HB.out.alloc (by omega) _).trans (hbw.mono (by simp; omega))⟩; have HO1 : Aside0 (Kd.R (Kd.int .i64) 2 W1 (w.heap.size + 1) (fun _ => True) (.slice (some ⟨gs, 0, none⟩) 3 cs) (nths x.legs i)) := ⟨Kd.R_below (Kd.R_alloc HO.out _) hbw⟩; clear HO HB hbw hsz)))
        obtain ⟨wo, rfl⟩ : ∃ wo : World, wo = wr := ⟨_, rfl⟩
        go_loopg [7] i (fun m v7 w' => ∃ k : Nat, v7 = .int .i64 k ∧ Aside0 (m + k = i ∧ (∀ j, j < k → samePlace (nthLeg_ x.legs j) (nthLeg_ x.legs i) = false) ∧ Below W1.heap.size W1 w'))
        case atStart => exact ⟨0, rfl, ⟨by omega, fun j h => by omega, Below.refl _ _⟩⟩
        case round =>
          obtain ⟨k, rfl, ⟨HM, HP, HBk⟩⟩ := hrel
          have HWk : Aside0 (Below w.heap.size w wr) := ⟨HW1.out.trans (HBk.mono HW1.out.size)⟩
          have hzk : wo.heap.size < wr.heap.size := Nat.lt_of_lt_of_le hz1 HBk.size
          have hzw : w.heap.size < wr.heap.size := by omega
          have r1k := (HBk.cell (p := ⟨w.heap.size, 1, none⟩) (by simp; omega)).trans ((HB1.out.cell (p := ⟨w.heap.size, 1, none⟩) (by simp)).trans hq1)
          have k0 := (HBk.cell (p := ⟨wo.heap.size, 0, none⟩) hz1).trans hl0
          have k1 := (HBk.cell (p := ⟨wo.heap.size, 1, none⟩) hz1).trans hl1_
          have k2 := (HBk.cell (p := ⟨wo.heap.size, 2, none⟩) hz1).trans hl2
          have k3 := (HBk.cell (p := ⟨wo.heap.size, 3, none⟩) hz1).trans hl3
          replace HM := Aside0.mk HM; replace HP := Aside0.mk HP; replace HBk := Aside0.mk HBk
          by_cases hk : k < i
          · obtain ⟨ad', e0', x0'⟩ := nthLeg G1.out k (by omega)
            cases e0'
            obtain ⟨o0, o1, o2, o3⟩ := x0' _ HWk.out
            clear x0'
            by_cases h0 : (nthLeg_ x.legs k).shard = (nthLeg_ x.legs i).shard
            · have b0 : ((nthLeg_ x.legs k).shard == (nthLeg_ x.legs i).shard) = true := by simpa using h0
              by_cases h1 : (nthLeg_ x.legs k).account = (nthLeg_ x.legs i).account
              · have b1 : ((nthLeg_ x.legs k).account == (nthLeg_ x.legs i).account) = true := by simpa using h1
                by_cases h2 : (nthLeg_ x.legs k).asset = (nthLeg_ x.legs i).asset
                · have b2 : ((nthLeg_ x.legs k).asset == (nthLeg_ x.legs i).asset) = true := by simpa using h2
                  have HF2 : Aside0 (contractFault x = 7) := ⟨by rw [HF.out, legsOf, ← HL.out, legsFrom_taken _ _ _ HFz.out (takenAt_yes _ _ k hk (by simp [samePlace, h0, h1, h2])), if_pos (by decide)]⟩
                  clear h0 h1 h2
                  go_wp2
                  go_ret
                  exact ⟨ret_int HF2.out.symm, HWk.out.alloc HWk.out.size _⟩
                · have b2 : ((nthLeg_ x.legs k).asset == (nthLeg_ x.legs i).asset) = false := by simpa using h2
                  have HQ : Aside0 (samePlace (nthLeg_ x.legs k) (nthLeg_ x.legs i) = false) := ⟨by simp [samePlace, h2]⟩
                  clear h0 h1 h2
                  go_wp2
                  go_roundg (gk - 1)
                  case measure => have := HM.out; omega
                  case rel => exact ⟨k + 1, by go_num, ⟨by have := HM.out; omega, fun j hj => by rcases Nat.lt_succ_iff_lt_or_eq.1 hj with hj | rfl; exact HP.out j hj; exact HQ.out, HBk.out.alloc HBk.out.size _⟩⟩
              · have b1 : ((nthLeg_ x.legs k).account == (nthLeg_ x.legs i).account) = false := by simpa using h1
                have HQ : Aside0 (samePlace (nthLeg_ x.legs k) (nthLeg_ x.legs i) = false) := ⟨by simp [samePlace, h1]⟩
                clear h0 h1
                go_wp2
                go_roundg (gk - 1)
                case measure => have := HM.out; omega
                case rel => exact ⟨k + 1, by go_num, ⟨by have := HM.out; omega, fun j hj => by rcases Nat.lt_succ_iff_lt_or_eq.1 hj with hj | rfl; exact HP.out j hj; exact HQ.out, HBk.out.alloc HBk.out.size _⟩⟩
            · have b0 : ((nthLeg_ x.legs k).shard == (nthLeg_ x.legs i).shard) = false := by simpa using h0
              have HQ : Aside0 (samePlace (nthLeg_ x.legs k) (nthLeg_ x.legs i) = false) := ⟨by simp [samePlace, h0]⟩
              clear h0
              go_wp2
              go_roundg (gk - 1)
              case measure => have := HM.out; omega
              case rel => exact ⟨k + 1, by go_num, ⟨by have := HM.out; omega, fun j hj => by rcases Nat.lt_succ_iff_lt_or_eq.1 hj with hj | rfl; exact HP.out j hj; exact HQ.out, HBk.out.alloc HBk.out.size _⟩⟩
          · obtain rfl : k = i := by have := HM.out; omega
            have hHO := Kd.R_below HO1.out HBk.out
            have hbd := HBD.out
            obtain ⟨a, ha, ha3⟩ : ∃ a : Nat, (nthLeg_ x.legs k).asset = a ∧ a < 3 := ⟨(nthLeg_ x.legs k).asset.toNat, by omega, by omega⟩
            have hSa := HS.out a
            have hz : (nths x.legs k).getD a 0 = sumOf a (x.legs.take k) := by
              obtain rfl | rfl | rfl : a = 0 ∨ a = 1 ∨ a = 2 := by omega
              all_goals rfl
            obtain ⟨g', hge, _, hbg, cs0, hcl, hM, hcc, hfr, hseg⟩ := R_open hHO 0 a ha3
            obtain rfl : gs = g' := by injection hge with hge; injection hge
            obtain rfl := hM
            have hc0 := hcc 0 _ rfl; have hf0 := hfr 0
            simp only [show (Kd.int .i64).sz = 1 from rfl, Nat.mul_one, Nat.add_zero, hz] at hc0 hf0
            have seg0 := hseg [.int .i64 (sumOf a (x.legs.take k) + (nthLeg_ x.legs k).amount)] (sumOf a (x.legs.take k) + (nthLeg_ x.legs k).amount) (fun _ => False) 0 (show 0 + 1 ≤ 1 by omega) rfl (fun _ h => h.elim)
            simp only [show (Kd.int .i64).sz = 1 from rfl, Nat.mul_one, Nat.add_zero] at seg0
            have seg := Aside0.mk seg0; clear seg0
            have hns : (nths x.legs k).set a (sumOf a (x.legs.take k) + (nthLeg_ x.legs k).amount) = nths x.legs (k + 1) := nths_set x.legs k a ha3 (by have := HN.out; omega) ha
            have HNS := Aside0.mk hns; have HBG := Aside0.mk hbg
            rw [ha] at k2
            have hb1 : -1000000000000 ≤ (nthLeg_ x.legs k).amount := hbd.2.2.1
            have hb2 : (nthLeg_ x.legs k).amount ≤ 1000000000000 := hbd.2.2.2
            have hb3 : -(1000000000000 * 8) ≤ sumOf a (x.legs.take k) := by have := HN.out; omega
            have hb4 : sumOf a (x.legs.take k) ≤ 1000000000000 * 8 := by have := HN.out; omega
            clear hcl hcc hfr hseg hns hbg hbd hSa hz hge hHO
            go_wp2
            go_region
            go_wp2
            go_roundg n
            case measure => have := HN.out; omega
            case rel =>
              have hbk := HB1.out.trans (HBk.out.mono (show w.heap.size + 1 ≤ W1.heap.size by omega))
              have hbg := HBG.out
              refine ⟨k + 1, by go_num, ⟨by have := HN.out; omega, by rw [← HL.out, legsFrom_step _ _ _ HFz.out (takenAt_no _ _ HP.out)], HS.out.step hi HFz.out, by rw [← HNS.out]; exact Kd.R_drew seg.out.1, below_drew (pw_below_grown hbk (some gs) (by omega) seg.out.2 (fun k hk => by injection hk with hk; omega))⟩⟩
      · have HF2 : Aside0 (contractFault x = legFault (nthLeg_ x.legs i)) := ⟨by rw [HF.out, legsOf, ← HL.out, legsFrom_bad _ _ _ hf, if_pos hf]⟩
        have t0 : (legFault (nthLeg_ x.legs i) != 0) = true := by simpa using hf
        clear hf
        go_wp2_with (first | (go_at_call 150; go_must (refine (spec_LegFault (nthLeg_ x.legs i) _).mono ?_; rintro e W1 ⟨rfl, hbw⟩; have HB1 : Aside0 (Below w.heap.size w W1) := ⟨below_step (below_alloc HW.out _) hbw⟩)))
        go_ret
        exact ⟨ret_int HF2.out.symm, HB1.out⟩
    · obtain rfl : i = x.legs.length := by have := HN.out; omega
      have hnl : nths x.legs x.legs.length = [sumOf 0 x.legs, sumOf 1 x.legs, sumOf 2 x.legs] := by unfold nths; rw [List.take_of_length_le (Nat.le_refl _)]
      have hlf : legsFrom x.legs x.legs.length 0 = 0 := by have h1 := HL.out; have h2 := HN.out; obtain rfl : gk = 0 := by omega
                                                           rw [← h1]; rfl
      have HG : Aside0 (contractFault x = if sumOf 0 x.legs = 0 ∧ sumOf 1 x.legs = 0 ∧ sumOf 2 x.legs = 0 then 0 else 1) := ⟨by rw [HF.out, legsOf, if_neg (by rw [hlf]; exact fun h => h rfl)]⟩
      have ho := HO.out
      rw [hnl] at ho
      have cell : ∀ (a : Nat) (ha : a < 3), wr.cell? ⟨gs, a, none⟩ = some (.int .i64 (sumOf a x.legs)) := by
        intro a ha
        obtain ⟨g', hge, _, hbg, cs0, hcl, hM, hcc, hfr, hseg⟩ := R_open ho 0 a ha
        obtain rfl : gs = g' := by injection hge with hge; injection hge
        obtain rfl := hM
        have hc0 := hcc 0 _ rfl
        simp only [show (Kd.int .i64).sz = 1 from rfl, Nat.mul_one, Nat.add_zero] at hc0
        rw [hc0]
        obtain rfl | rfl | rfl : a = 0 ∨ a = 1 ∨ a = 2 := by omega
        all_goals rfl
      have CE := Aside0.mk cell; clear cell ho hnl hlf HO
      go_wp2
      obtain ⟨wo, rfl⟩ : ∃ wo : World, wo = wr := ⟨_, rfl⟩
      go_loopg [9] 3 (fun m v9 w' => ∃ j : Nat, v9 = .int .i64 j ∧ Aside0 (m + j = 3 ∧ (∀ a : Nat, a < j → sumOf (a : Int) x.legs = 0) ∧ wo = w'))
      case atStart => exact ⟨0, rfl, ⟨by omega, fun a h => by omega, rfl⟩⟩
      case round =>
        obtain ⟨j, rfl, ⟨HM, HP, rfl⟩⟩ := hrel
        replace HM := Aside0.mk HM; replace HP := Aside0.mk HP
        by_cases hj : j < 3
        · have hc := CE.out j hj
          by_cases hs : sumOf (j : Int) x.legs = 0
          · have hs2 : (sumOf (j : Int) x.legs != 0) = false := by simpa using hs
            have HS2 := Aside0.mk hs; clear hs
            go_wp2
            go_roundg (gk - 1)
            case measure => have := HM.out; omega
            case rel => exact ⟨j + 1, by go_num, ⟨by have := HM.out; omega, fun a ha => by rcases Nat.lt_succ_iff_lt_or_eq.1 ha with ha | rfl; exact HP.out a ha; exact HS2.out, rfl⟩⟩
          · have hs2 : (sumOf (j : Int) x.legs != 0) = true := by simpa using hs
            have HF2 : Aside0 (contractFault x = 1) := ⟨by
              rw [HG.out, if_neg]
              rintro ⟨q0, q1, q2⟩
              obtain rfl | rfl | rfl : j = 0 ∨ j = 1 ∨ j = 2 := by omega
              · exact hs q0
              · exact hs q1
              · exact hs q2⟩
            clear hs
            go_wp2
            go_ret
            exact ⟨ret_int HF2.out.symm, HW.out⟩
        · obtain rfl : j = 3 := by have := HM.out; omega
          have HF2 : Aside0 (contractFault x = 0) := ⟨by rw [HG.out, if_pos ⟨HP.out 0 (by decide), HP.out 1 (by decide), HP.out 2 (by decide)⟩]⟩
          go_wp2
          go_ret
          exact ⟨ret_int HF2.out.symm, HW.out⟩

end Go.Proofs.Ytjlhdhbnaagajaa.J
