/- The program's ContractFault. -/
import Derived.Test.YtjlhdhbnaagajaaImplD
namespace Go.Proofs.Ytjlhdhbnaagajaa.J
open Go.RowKit Go.Proofs.YtjlhdhbnaagajaaW.PrintWords Go.Proofs.YtjlhdhbnaagajaaW.PrintLast Go.Proofs.YtjlhdhbnaagajaaW.PrintMore
set_option linter.unusedVariables false
set_option linter.unusedSimpArgs false

theorem own_below {H : Type} {P : Program} {k : TypeId} {R : Value → Option (DataW H × List MemPlace)} {b n : Nat} {D : DataW H} {w w1 : World} (h : w.ownsMap P k R b n D) (hb : Below w.heap.size w w1) : w1.ownsMap P k R b n D := h.kept (grown_of_below hb none) (by simp)
set_option maxRecDepth 100000 in
set_option maxHeartbeats 3200000 in
theorem impl_ContractFault (x : Contract) (cx : List Value) (w : World) (hx : kContract.K w x cx) (hl : x.legs.length ≤ 1099511627776) : Calls Try.prog 110 #[.agg cx.toArray] w fun e w' => e = .returned (.int .i64 (contractFault x)) ∧ Below w.heap.size w w' := by
  obtain ⟨A1, c1, rfl, l1, g1⟩ := kContract_open hx
  have G1 := Aside0.mk g1; clear g1 hx
  have hu := Try.underlying75
  have hv := Try.underlying151
  have HB := Aside0.mk (Below.refl w.heap.size w)
  cases hid : isId x.id
  · have HF : Aside0 (contractFault x = 3) := ⟨by simp [contractFault, hid]⟩
    go_enter Try.func110, Try.ntmps110
    go_wp2_with (first | (go_at_call 112; refine (impl_isId _ _).mono ?_; rintro e w' ⟨rfl, rfl⟩))
    go_ret
    exact ⟨ret_int HF.out.symm, by (repeat (first | (with_reducible exact HB.out) | (with_reducible refine below_alloc ?_ _) | (with_reducible refine below_drew1 ?_) | (with_reducible refine pw_below_drewN ?_ _)))⟩
  by_cases h2 : ¬ (2 ≤ x.legs.length ∧ x.legs.length ≤ 8)
  · have HF : Aside0 (contractFault x = 2) := ⟨by unfold contractFault; rw [if_neg (by simp [hid])]; split; rfl; split; rfl; omega⟩
    have t2 : inB (x.legs.length : Int) 2 8 = false := by rw [Bool.eq_false_iff]; intro hc; simp only [inB, Bool.and_eq_true, decide_eq_true_eq] at hc; omega
    have T2 := Aside0.mk t2; clear t2 h2
    go_enter Try.func110, Try.ntmps110
    go_wp2_with (first | (go_at_call 112; refine (impl_isId _ _).mono ?_; rintro e w' ⟨rfl, rfl⟩) | (go_at_call 136; refine (impl_size_Leg _ _ _ _).mono ?_; rintro e w' ⟨rfl, rfl⟩) | (go_at_call 78; refine (impl_within _ _ _ _).mono ?_; rintro e w' ⟨rfl, rfl⟩; rw [T2.out]))
    go_ret
    exact ⟨ret_int HF.out.symm, by (repeat (first | (with_reducible exact HB.out) | (with_reducible refine below_alloc ?_ _) | (with_reducible refine below_drew1 ?_) | (with_reducible refine pw_below_drewN ?_ _)))⟩
  replace h2 : 2 ≤ x.legs.length ∧ x.legs.length ≤ 8 := by omega
  obtain ⟨hl2, hl8⟩ := h2
  have t2 : inB (x.legs.length : Int) 2 8 = true := by simp only [inB, Bool.and_eq_true, decide_eq_true_eq]; omega
  have T2 := Aside0.mk t2; clear t2
  have HF : Aside0 (contractFault x = legsOf x.legs) := ⟨by unfold contractFault; rw [if_neg (by simp [hid]), if_neg (by omega), if_neg (by omega)]⟩
  have hmm := @run_makeMap Try.prog
  go_enter Try.func110, Try.ntmps110
  go_wp2_with (first | (go_at_call 112; refine (impl_isId _ _).mono ?_; rintro e w' ⟨rfl, rfl⟩) | (go_at_call 136; refine (impl_size_Leg _ _ _ _).mono ?_; rintro e w' ⟨rfl, rfl⟩) | (go_at_call 78; refine (impl_within _ _ _ _).mono ?_; rintro e w' ⟨rfl, rfl⟩; rw [T2.out]))
  clear hmm
  go_loopg [24] x.legs.length (fun n v24 w' => ∃ i : Nat, v24 = .int .i64 i ∧ Aside0 (n + i = x.legs.length ∧ legsFrom x.legs n i = legsFrom x.legs x.legs.length 0 ∧ SumsOk x.legs i ∧ SumsIn x.legs i ∧ (∃ D : DataW Unit, w'.ownsMap Try.prog 2 (plainElem Try.prog 2) (w.heap.size + 1) i D ∧ MapIs D (fun a => sumOf a (x.legs.take i))) ∧ w'.heap[w.heap.size]? = some (.cells #[.int .i64 x.id, .slice A1 x.legs.length c1] 75 (0, 0)) ∧ Below w.heap.size w w'))
  case atStart => exact ⟨0, rfl, ⟨by omega, rfl, fun a => by simp [sumOf], fun a _ => by simp [sumOf], ⟨.map [], by have h := World.ownsMap_made (H := Unit) (w.alloc (.cells #[.int .i64 x.id, .slice A1 x.legs.length c1] 75)) Try.prog 2 (plainElem Try.prog 2); rwa [World.size_alloc] at h, by simpa [sumOf] using MapIs.none⟩, blk_alloc (blk_new _ _) _, by (repeat (first | (with_reducible exact HB.out) | (with_reducible refine below_alloc ?_ _) | (with_reducible refine below_drew1 ?_) | (with_reducible refine pw_below_drewN ?_ _)))⟩⟩
  case round =>
    clear HB
    obtain ⟨i, rfl, ⟨HN, HL, HS, HI, ⟨D, HM, HD⟩, BK, HB⟩⟩ := hrel
    replace HN := Aside0.mk HN; replace HL := Aside0.mk HL; replace HS := Aside0.mk HS; replace HI := Aside0.mk HI; replace HM := Aside0.mk HM; replace HD := Aside0.mk HD; replace BK := Aside0.mk BK; replace HB := Aside0.mk HB
    have hzr : w.heap.size < wr.heap.size := blk_lt BK.out
    by_cases hi : i < x.legs.length
    · obtain ⟨n, rfl⟩ : ∃ n, gk = n + 1 := ⟨gk - 1, by have := HN.out; omega⟩
      obtain ⟨ad, e0, x0⟩ := nthLeg G1.out i hi
      subst e0
      obtain ⟨y0, y1, y2, y3⟩ := x0 _ HB.out
      clear x0
      obtain ⟨g, hg⟩ : ∃ g, g = nthLeg_ x.legs i := ⟨_, rfl⟩
      rw [← hg] at y0 y1 y2 y3
      have HG := Aside0.mk hg
      by_cases hf : legFault g = 0
      · have HFz := Aside0.mk hf
        have t0 : (legFault g != 0) = false := by simpa using hf
        have hbd := legFault_zero hf
        obtain ⟨a0, a1, a2, a3⟩ := hbd
        have hbs := HS.out g.asset
        have hi8 : i ≤ 8 := by omega
        have s0 : -8000000000000 ≤ sumOf g.asset (x.legs.take i) := by omega
        have s1 : sumOf g.asset (x.legs.take i) ≤ 8000000000000 := by omega
        have hcut : ∀ W : World, (Instr.slice 73 (.slice (some ad) x.legs.length c1) none (some (.int .i64 (i : Int))) none).run Try.prog W = .ok (.slice (some ad) i c1) W := by
          obtain ⟨i0, hi0, _, _, _⟩ := info_parts (show (Try.prog.info? 151).map (fun i => (i.zero, i.size, i.bytes)) = some (some (.agg #[.int .i64 0, .int .i64 0, .int .i64 0, .int .i64 0]), 4, 32) from by kernel_rfl)
          have h := cut_to (P := Try.prog) 73 151 .i64 Try.underlying73 hi0 (some ad) x.legs.length c1 (i : Int) (by omega) (by omega) l1
          simpa using h
        have hkey : keyOf Try.prog 2 (.int .i64 g.asset) = some (.int .i64 g.asset) := Maps.keyOf_int_mk Try.underlying2 (WalkArith.wf_i64 (by omega))
        have HKEY := Aside0.mk hkey
        clear hf hbs hkey hg
        cases hq : anyAt x.legs i g with
        | true =>
          have HF2 : Aside0 (contractFault x = 7) := ⟨by rw [HF.out, legsOf, ← HL.out, legsFrom_taken _ _ _ (by rw [← HG.out]; exact HFz.out) (by rw [takenAt, ← HG.out]; exact hq), if_pos (by decide)]⟩
          have HQ := Aside0.mk hq; clear hq
          go_wp2_with (first | (go_at_call 137; go_must (refine (impl_LegFault g _).mono ?_; rintro e W1 ⟨rfl, hbw⟩; have BL1 := Aside0.mk (blk_below (blk_new wr _) hbw); have BK1 := Aside0.mk (blk_below (blk_alloc BK.out _) hbw); have HB1 := Aside0.mk (below_step (below_alloc HB.out _) hbw); have hc1 := (blk_cell BK1.out 1).trans rfl; clear hbw)) | (go_at_call 138; go_must (refine (slices_ContainsFunc_Leg _ _ i x.legs g wr.heap.size _ (Kd.C_below G1.out HB1.out) (by omega) hl8 (blk_lt BL1.out) ((blk_cell BL1.out 0).trans rfl) ((blk_cell BL1.out 1).trans rfl) ((blk_cell BL1.out 2).trans rfl) ((blk_cell BL1.out 3).trans rfl)).mono ?_; rintro e W2 ⟨rfl, hbw⟩; rw [HQ.out]; have HB2 := Aside0.mk (below_step HB1.out hbw); clear hbw)))
          go_ret
          exact ⟨ret_int HF2.out.symm, HB2.out⟩
        | false =>
          have HLS : Aside0 (legsFrom x.legs n (i + 1) = legsFrom x.legs x.legs.length 0) := ⟨by rw [← HL.out, legsFrom_step _ _ _ (by rw [← HG.out]; exact HFz.out) (by rw [takenAt, ← HG.out]; exact hq)]⟩
          have HQ := Aside0.mk hq; clear hq
          go_wp2_with (first | (go_at_call 137; go_must (refine (impl_LegFault g _).mono ?_; rintro e W1 ⟨rfl, hbw⟩; have BL1 := Aside0.mk (blk_below (blk_new wr _) hbw); have BK1 := Aside0.mk (blk_below (blk_alloc BK.out _) hbw); have HB1 := Aside0.mk (below_step (below_alloc HB.out _) hbw); have HM1 := Aside0.mk (own_below (HM.out.alloc _) hbw); have hc1 := (blk_cell BK1.out 1).trans rfl; clear hbw)) | (go_at_call 138; go_must (refine (slices_ContainsFunc_Leg _ _ i x.legs g wr.heap.size _ (Kd.C_below G1.out HB1.out) (by omega) hl8 (blk_lt BL1.out) ((blk_cell BL1.out 0).trans rfl) ((blk_cell BL1.out 1).trans rfl) ((blk_cell BL1.out 2).trans rfl) ((blk_cell BL1.out 3).trans rfl)).mono ?_; rintro e W2 ⟨rfl, hbw⟩; rw [HQ.out]; have HB2 := Aside0.mk (below_step HB1.out hbw); have HM2 := Aside0.mk (own_below HM1.out hbw); have BK2 := Aside0.mk (blk_below BK1.out hbw); have BL2 := Aside0.mk (blk_below BL1.out hbw); have hl2 := (blk_cell BL2.out 2).trans rfl; have hl3 := (blk_cell BL2.out 3).trans rfl; clear hbw)) | (at_lookup; go_must (refine wpList_lookup_own_int _ rfl _ _ 182 rfl 2 2 .i64 law_i64 Try.underlying182 Try.underlying2 (zero_i64 _) (w.heap.size + 1) i D rfl HM2.out _ _ rfl HKEY.out ?_; intro c hat hwc; obtain rfl := HD.out.val hat; clear hat hwc)) | (at_mapUpdate; go_must (refine wpList_mapUpdate_own _ rfl _ _ _ 182 rfl 2 2 law_i64 Try.underlying182 _ (w.heap.size + 1) i D rfl HM2.out (by unfold maxLen; omega) _ _ _ rfl rfl HKEY.out _ [] (plainElem_int Try.underlying2 (WalkArith.wf_i64 (by omega))) ?_; intro w3 hown hgr; have HM3 := Aside0.mk hown; have BK3 := Aside0.mk (blk_grown BK2.out hgr (by simp)); have HB3 := Aside0.mk (pw_below_grown HB2.out _ HB2.out.size hgr (fun k hk => by injection hk with hk; omega)); clear hown hgr)))
          go_roundg n
          case measure => have := HN.out; omega
          case rel => exact ⟨i + 1, by go_num, ⟨by have := HN.out; omega, HLS.out, HS.out.step hi (by rw [← HG.out]; exact HFz.out), HI.out.step hi (by rw [← HG.out]; exact HFz.out), ⟨_, HM3.out, by have h := HD.out.step hi; rw [← HG.out] at h; exact h⟩, BK3.out, HB3.out⟩⟩
      · have HF2 : Aside0 (contractFault x = legFault g) := ⟨by rw [HF.out, legsOf, ← HL.out, legsFrom_bad _ _ _ (by rw [← hg]; exact hf), ← hg, if_pos hf]⟩
        have t0 : (legFault g != 0) = true := by simpa using hf
        clear hf hg
        go_wp2_with (first | (go_at_call 137; go_must (refine (impl_LegFault g _).mono ?_; rintro e W1 ⟨rfl, hbw⟩; have HB1 := Aside0.mk (below_step (below_alloc HB.out _) hbw); clear hbw)))
        go_ret
        exact ⟨ret_int HF2.out.symm, HB1.out⟩
    · obtain rfl : i = x.legs.length := by have := HN.out; omega
      have hlf : legsFrom x.legs x.legs.length 0 = 0 := by have h1 := HL.out; have h2 := HN.out; obtain rfl : gk = 0 := by omega
                                                           rw [← h1]; rfl
      have HG : Aside0 (contractFault x = if sumOf 0 x.legs = 0 ∧ sumOf 1 x.legs = 0 ∧ sumOf 2 x.legs = 0 then 0 else 1) := ⟨by rw [HF.out, legsOf, if_neg (by rw [hlf]; exact fun h => h rfl)]⟩
      have hd := HD.out; have hin := HI.out
      simp only [SumsIn, List.take_of_length_le (Nat.le_refl x.legs.length)] at hd hin
      have HD2 := Aside0.mk hd; have HI2 := Aside0.mk hin
      clear hd hin hlf HS HD HI HL HN BK G1
      obtain ⟨wo, rfl⟩ : ∃ wo : World, wo = wr := ⟨_, rfl⟩
      go_wp2_with (first | (at_range; refine wpList_range_own _ rfl _ 182 rfl 2 2 law_i64 Try.underlying182 _ (w.heap.size + 1) x.legs.length _ rfl HM.out ?_; intro w0 hrg0 hg0 hs0; have HR0 := Aside0.mk hrg0; have HB0 := Aside0.mk (pw_below_grown HB.out _ HB.out.size hg0 (fun k hk => by cases hk)); clear hrg0 hg0 hs0))
      go_frame
      go_loopg [] (Maps.size D) (fun m w' => ∃ (left : Lit → Bool), Aside0 (w'.ranges Try.prog 2 (plainElem Try.prog 2) (w.heap.size + 1) wo.heap.size x.legs.length D left m ∧ (∀ a, left (.int .i64 a) = true ∨ Maps.has D (.int .i64 a) = false ∨ sumOf a x.legs = 0) ∧ Below w.heap.size w w'))
      case atStart => exact ⟨_, ⟨HR0.out, fun a => by cases Maps.has D (.int .i64 a) <;> simp, HB0.out⟩⟩
      case round =>
        clear HR0 HB0
        obtain ⟨left, ⟨HR, HZ, HBr⟩⟩ := hrel
        replace HR := Aside0.mk HR; replace HZ := Aside0.mk HZ; replace HBr := Aside0.mk HBr
        go_wp2_with (first | (at_next; refine wpList_next_ranges_ii _ rfl _ rfl 2 2 .i64 .i64 law_i64 Try.underlying2 Try.underlying2 (w.heap.size + 1) wo.heap.size x.legs.length _ _ _ rfl HR.out ?_ ?_))
        · intro _ hl0
          have HF3 : Aside0 (contractFault x = 0) := ⟨by
            have hz : ∀ a, sumOf a x.legs = 0 := fun a => by
              rcases HZ.out a with h | h | h
              · rw [hl0] at h; cases h
              · exact HD2.out.no h
              · exact h
            rw [HG.out, if_pos ⟨hz 0, hz 1, hz 2⟩]⟩
          clear hl0
          go_wp2
          go_ret
          exact ⟨ret_int HF3.out.symm, HBr.out⟩
        · intro a c w1 cnt1 hwa hwc hla hat hrg1 hlt hg1 hs1 hen
          have hca := HD2.out.val (hat _)
          have HB1 := Aside0.mk (pw_below_grown HBr.out _ HBr.out.size hg1 (fun k hk => by injection hk with hk; rw [← hk]; exact HB.out.size))
          have HRG := Aside0.mk hrg1
          by_cases hc : c = 0
          · have t0 : (c != 0) = false := by simpa using hc
            have HZ1 : Aside0 (∀ b, ((fun z : Lit => left z && !z.sameKey (.int .i64 a)) (.int .i64 b)) = true ∨ Maps.has D (.int .i64 b) = false ∨ sumOf b x.legs = 0) := ⟨fun b => by
              by_cases hb : b = a
              · subst hb; exact .inr (.inr (hca.symm.trans hc))
              · rcases HZ.out b with h | h | h
                · refine .inl ?_
                  have hsk : Lit.sameKey (.int .i64 b) (.int .i64 a) = false := Maps.sameKey_ne (by intro he; injection he with _ he; exact hb he)
                  simp [h, hsk]
                · exact .inr (.inl h)
                · exact .inr (.inr h)⟩
            have HLT := Aside0.mk hlt
            clear hca hc hat hla hwa hwc hrg1 hg1 hs1 hlt
            go_wp2
            go_roundg cnt1
            case measure => exact HLT.out
            case rel => exact ⟨_, ⟨HRG.out, HZ1.out, HB1.out⟩⟩
          · have t0 : (c != 0) = true := by simpa using hc
            have HF3 : Aside0 (contractFault x = 1) := ⟨by
              rw [HG.out, if_neg]
              intro hz
              have hne : sumOf a x.legs ≠ 0 := by rw [← hca]; exact hc
              by_cases ha : a < 0 ∨ 2 < a
              · exact hne (HI2.out a ha)
              · obtain rfl | rfl | rfl : a = 0 ∨ a = 1 ∨ a = 2 := by omega
                · exact hne hz.1
                · exact hne hz.2.1
                · exact hne hz.2.2⟩
            clear hca hc hat hla hwa hwc hrg1 hg1 hs1 hlt
            go_wp2
            go_ret
            exact ⟨ret_int HF3.out.symm, HB1.out⟩

end Go.Proofs.Ytjlhdhbnaagajaa.J
