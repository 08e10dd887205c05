/- The program's EventFault and packEvent. -/
import Derived.Test.YtjlhdhbnaagajaaImplE
import Derived.Test.YtjlhdhbnaagajaaImplC
namespace Go.Proofs.Ytjlhdhbnaagajaa.J
open Go.RowKit Go.Proofs.YtjlhdhbnaagajaaW.PrintWords Go.Proofs.YtjlhdhbnaagajaaW.PrintLast Go.Proofs.YtjlhdhbnaagajaaW.PrintMore
set_option linter.unusedVariables false
set_option linter.unusedSimpArgs false

set_option maxRecDepth 100000 in
set_option maxHeartbeats 800000 in
theorem impl_EventFault (x : Event) (cx : List Value) (w : World) (hx : kEvent.K w x cx) (hl : x.contract.legs.length ≤ 1099511627776) : Calls Try.prog 67 #[.agg cx.toArray] w fun e w' => e = .returned (.int .i64 (eventFault x)) ∧ Below w.heap.size w w' := by
  obtain ⟨A2, c2, rfl, l2, g2⟩ := kEvent_open hx
  have G2 := Aside0.mk g2; clear g2 hx
  have hu := Try.underlying75
  have hv := Try.underlying77
  have HB := Aside0.mk (Below.refl w.heap.size w)
  cases hv0 : x.vote
  · cases h1 : isId x.contract.id
    · have HF : Aside0 (eventFault x = 3) := ⟨by simp [eventFault, hv0, h1]⟩
      go_enter Try.func67, Try.ntmps67
      go_wp2_with (first | (go_at_call 112; refine (impl_isId _ _).mono ?_; rintro e w' ⟨rfl, rfl⟩))
      go_ret
      exact ⟨ret_int HF.out.symm, by (repeat (first | (with_reducible exact HB.out) | (with_reducible refine below_alloc ?_ _) | (with_reducible refine below_drew1 ?_) | (with_reducible refine pw_below_drewN ?_ _)))⟩
    cases h2 : inB x.outcome 1 2
    · have HF : Aside0 (eventFault x = 3) := ⟨by simp [eventFault, hv0, h1, h2]⟩
      go_enter Try.func67, Try.ntmps67
      go_wp2_with (first | (go_at_call 112; refine (impl_isId _ _).mono ?_; rintro e w' ⟨rfl, rfl⟩) | (go_at_call 113; refine (impl_isOutcome _ _).mono ?_; rintro e w' ⟨rfl, rfl⟩))
      go_ret
      exact ⟨ret_int HF.out.symm, by (repeat (first | (with_reducible exact HB.out) | (with_reducible refine below_alloc ?_ _) | (with_reducible refine below_drew1 ?_) | (with_reducible refine pw_below_drewN ?_ _)))⟩
    by_cases h3 : 0 < x.contract.legs.length
    · have HF : Aside0 (eventFault x = 1) := ⟨by simp [eventFault, hv0, h1, h2, h3]⟩
      have t3 : decide (0 < x.contract.legs.length) = true := decide_eq_true h3
      clear h3
      go_enter Try.func67, Try.ntmps67
      go_wp2_with (first | (go_at_call 112; refine (impl_isId _ _).mono ?_; rintro e w' ⟨rfl, rfl⟩) | (go_at_call 113; refine (impl_isOutcome _ _).mono ?_; rintro e w' ⟨rfl, rfl⟩))
      go_ret
      exact ⟨ret_int HF.out.symm, by (repeat (first | (with_reducible exact HB.out) | (with_reducible refine below_alloc ?_ _) | (with_reducible refine below_drew1 ?_) | (with_reducible refine pw_below_drewN ?_ _)))⟩
    · have HF : Aside0 (eventFault x = 0) := ⟨by simp [eventFault, hv0, h1, h2, h3]⟩
      have t3 : decide (0 < x.contract.legs.length) = false := decide_eq_false h3
      clear h3
      go_enter Try.func67, Try.ntmps67
      go_wp2_with (first | (go_at_call 112; refine (impl_isId _ _).mono ?_; rintro e w' ⟨rfl, rfl⟩) | (go_at_call 113; refine (impl_isOutcome _ _).mono ?_; rintro e w' ⟨rfl, rfl⟩))
      go_ret
      exact ⟨ret_int HF.out.symm, by (repeat (first | (with_reducible exact HB.out) | (with_reducible refine below_alloc ?_ _) | (with_reducible refine below_drew1 ?_) | (with_reducible refine pw_below_drewN ?_ _)))⟩
  · have ARM : ∀ W, Below w.heap.size w W → Calls Try.prog 110 #[.agg #[.int .i64 x.contract.id, .slice A2 x.contract.legs.length c2]] W fun e w' => e = .returned (.int .i64 (contractFault x.contract)) ∧ Below W.heap.size W w' := fun W hb => impl_ContractFault x.contract _ W (kContract_mk x.contract l2 (Kd.C_below G2.out hb)) hl
    have HA := Aside0.mk ARM; clear ARM
    by_cases hc : contractFault x.contract = 0
    · have tc : (contractFault x.contract != 0) = false := by simpa using hc
      by_cases ho : x.outcome = 0
      · have t0 : (x.outcome != 0) = false := by simpa using ho
        have HF : Aside0 (eventFault x = 0) := ⟨by simp [eventFault, hv0, hc, ho]⟩
        clear hc ho
        go_enter Try.func67, Try.ntmps67
        go_wp2_with (first | (go_at_call 110; go_must (refine (HA.out _ (by (repeat (first | (with_reducible exact HB.out) | (with_reducible refine below_alloc ?_ _) | (with_reducible refine below_drew1 ?_) | (with_reducible refine pw_below_drewN ?_ _))))).mono ?_; rintro e W1 ⟨rfl, hbw⟩; have hsz := hbw.size; simp at hsz; have z1 : w.heap.size < W1.heap.size := (by omega); obtain ⟨hc1, hf1⟩ := bcell hbw; have HB1 : Aside0 (Below w.heap.size w W1) := ⟨below_step (by (repeat (first | (with_reducible exact HB.out) | (with_reducible refine below_alloc ?_ _) | (with_reducible refine below_drew1 ?_) | (with_reducible refine pw_below_drewN ?_ _)))) hbw⟩; clear HB; have HB := HB1; clear HB1 hbw hsz)))
        go_ret
        exact ⟨ret_int HF.out.symm, by (repeat (first | (with_reducible exact HB.out) | (with_reducible refine below_alloc ?_ _) | (with_reducible refine below_drew1 ?_) | (with_reducible refine pw_below_drewN ?_ _)))⟩
      · have t0 : (x.outcome != 0) = true := by simpa using ho
        have HF : Aside0 (eventFault x = 1) := ⟨by simp [eventFault, hv0, hc, ho]⟩
        clear hc ho
        go_enter Try.func67, Try.ntmps67
        go_wp2_with (first | (go_at_call 110; go_must (refine (HA.out _ (by (repeat (first | (with_reducible exact HB.out) | (with_reducible refine below_alloc ?_ _) | (with_reducible refine below_drew1 ?_) | (with_reducible refine pw_below_drewN ?_ _))))).mono ?_; rintro e W1 ⟨rfl, hbw⟩; have hsz := hbw.size; simp at hsz; have z1 : w.heap.size < W1.heap.size := (by omega); obtain ⟨hc1, hf1⟩ := bcell hbw; have HB1 : Aside0 (Below w.heap.size w W1) := ⟨below_step (by (repeat (first | (with_reducible exact HB.out) | (with_reducible refine below_alloc ?_ _) | (with_reducible refine below_drew1 ?_) | (with_reducible refine pw_below_drewN ?_ _)))) hbw⟩; clear HB; have HB := HB1; clear HB1 hbw hsz)))
        go_ret
        exact ⟨ret_int HF.out.symm, by (repeat (first | (with_reducible exact HB.out) | (with_reducible refine below_alloc ?_ _) | (with_reducible refine below_drew1 ?_) | (with_reducible refine pw_below_drewN ?_ _)))⟩
    · have tc : (contractFault x.contract != 0) = true := by simpa using hc
      have HF : Aside0 (eventFault x = contractFault x.contract) := ⟨by simp [eventFault, hv0, hc]⟩
      clear hc
      go_enter Try.func67, Try.ntmps67
      go_wp2_with (first | (go_at_call 110; go_must (refine (HA.out _ (by (repeat (first | (with_reducible exact HB.out) | (with_reducible refine below_alloc ?_ _) | (with_reducible refine below_drew1 ?_) | (with_reducible refine pw_below_drewN ?_ _))))).mono ?_; rintro e W1 ⟨rfl, hbw⟩; have hsz := hbw.size; simp at hsz; have z1 : w.heap.size < W1.heap.size := (by omega); obtain ⟨hc1, hf1⟩ := bcell hbw; have HB1 : Aside0 (Below w.heap.size w W1) := ⟨below_step (by (repeat (first | (with_reducible exact HB.out) | (with_reducible refine below_alloc ?_ _) | (with_reducible refine below_drew1 ?_) | (with_reducible refine pw_below_drewN ?_ _)))) hbw⟩; clear HB; have HB := HB1; clear HB1 hbw hsz)))
      go_ret
      exact ⟨ret_int HF.out.symm, by (repeat (first | (with_reducible exact HB.out) | (with_reducible refine below_alloc ?_ _) | (with_reducible refine below_drew1 ?_) | (with_reducible refine pw_below_drewN ?_ _)))⟩
theorem conF_len {c : Contract} (h : contractFault c = 0) : c.legs.length ≤ 8 := by
  unfold contractFault at h
  split at h
  · omega
  · split at h
    · omega
    · split at h <;> omega
theorem evF_len {e : Event} (h : eventFault e = 0) : e.contract.legs.length ≤ 8 := by
  unfold eventFault at h
  split at h
  · split at h
    · omega
    · rename_i hc; exact conF_len (by omega)
  · split at h
    · omega
    · split at h
      · omega
      · split at h <;> omega
set_option maxRecDepth 100000 in
set_option maxHeartbeats 1600000 in
theorem impl_packEvent (x : Event) (cx : List Value) (w : World) (hx : kEvent.K w x cx) (hl : x.contract.legs.length ≤ 8) : Calls Try.prog 69 #[.agg cx.toArray] w fun e w' => (∃ v, e = .returned v ∧ Kd.R (Kd.int .u8) 5 w' w.heap.size (fun _ => True) v (packEv x)) ∧ Below w.heap.size w w' := by
  obtain ⟨A2, c2, rfl, l2, g2⟩ := kEvent_open hx
  have G2 := Aside0.mk g2; clear g2 hx
  have hu := Try.underlying75
  have hv := Try.underlying77
  cases hv0 : x.vote
  · have HPE : Aside0 (packEv x = ([2] ++ packNum x.contract.id) ++ [x.outcome % 256]) := ⟨by rw [packEv, hv0]; rfl⟩
    clear hv0
    go_enter Try.func69, Try.ntmps69
    go_wp2_with (first | ((with_reducible refine gate_dst (N := 11) rfl ?_); go_must (refine Kd.R_lit (Kd.int .u8) _ 5 ?hg (N := 11) ?hd (xs := ([2] : List Int)) (inner := [.int .u8 2]) (ok := fun _ => True) (okp := fun _ => True) ?hr ?hp (fun _ hk => hk) trivial (Below.refl _ _) (Nat.le_refl _) (by simp) ?_; (case hd => rfl); (case hg => rfl); (case hr => first | (go_simp; done) | (go_simp; rfl)); (case hp => exact (Reps.one (show Kd.M (Kd.int .u8) _ _ _ 2 [.int .u8 2] from rfl) (Reps.none _ _))); intro vL w2 ho hb hg_ hnew_; have BK2 := Aside0.mk (blk_below (blk_new w _) hb); have HB2 : Aside0 (Below w.heap.size w w2) := ⟨below_step (below_alloc (Below.refl w.heap.size w) _) hb⟩; have HO2 : Aside0 (Kd.R (Kd.int .u8) 5 w2 w.heap.size (fun q => w.heap.size + 1 ≤ q) vL [2]) := ⟨Kd.R_lower (Kd.R_mono (Kd.R_bound ho) (fun q h => by simpa using h.2.1)) (by simp)⟩; have k0 := (blk_cell BK2.out 0).trans rfl; have k1 := (blk_cell BK2.out 1).trans rfl; have k3 := (blk_cell BK2.out 3).trans rfl; clear hg_ hnew_ ho hb)) | (go_at_call 114; go_must (refine (impl_PackNumber _ _).mono ?_; rintro e W3 ⟨⟨v4, rfl, ho⟩, hbw⟩; have BK3 := Aside0.mk (blk_below BK2.out hbw); have HB3 : Aside0 (Below w.heap.size w W3) := ⟨below_step HB2.out hbw⟩; have HO3 := Aside0.mk (Kd.R_below HO2.out hbw); obtain ⟨AP, cP, eP, hlP, hCP⟩ := Kd.R_reads ho; subst eP; have HCP := Aside0.mk hCP; clear ho hbw hCP)) | ((with_reducible refine gate_builtin (b := .append) (xs := #[.tmp 11, .tmp 15]) rfl ?_); at_builtin; go_must (refine Kd.R_append_rows (Kd.int .u8) (w0 := w) w.heap.size rfl (.tmp 11) (.tmp 15) 23 5 (.int .u8 0) 1 rfl Try.underlying23 infou8 rfl (by decide) (by omega) vL ([2] : List Int) (packNum x.contract.id) _ _ _ (fun q => w.heap.size + 1 ≤ q) (fun _ => False) rfl rfl ?aO ?aR (fun _ _ h => h) (fun _ h => h.elim) ?aF ?aB ?aS ?aL ?_; (case aR => exact HCP.out); (case aB => exact HB3.out); (case aO => exact HO3.out); (case aF => intro q hq; have := blk_lt BK3.out; omega); (case aS => exact HB3.out.size); (case aL => have := packNum_len x.contract.id; simp; omega); intro v5 w5 ho hb hgr hat; have HO5 := Aside0.mk ho; have HB5 := Aside0.mk hb; have BK5 := Aside0.mk (blk_grown BK3.out hgr (own_far HO3.out (by omega))); have k5 := (blk_cell BK5.out 3).trans rfl; clear ho hb hgr hat)) | ((with_reducible refine gate_dst (N := 21) rfl ?_); go_must (refine Kd.R_lit (Kd.int .u8) _ 5 ?hg (N := 21) ?hd (xs := [x.outcome % 256]) (inner := [.int .u8 (x.outcome % 256)]) (ok := fun _ => True) (okp := fun _ => True) ?hr ?hp (fun _ hk => hk) trivial (Below.refl _ _) (Nat.le_refl _) (by simp) ?_; (case hd => rfl); (case hg => rfl); (case hr => first | (go_simp; done) | (go_simp; rfl)); (case hp => exact (Reps.one (show Kd.M (Kd.int .u8) _ _ _ (x.outcome % 256) [.int .u8 (x.outcome % 256)] from rfl) (Reps.none _ _))); intro vM w6 ho hb hg_ hnew_; have BK6 := Aside0.mk (blk_below BK5.out hb); have HB6 : Aside0 (Below w.heap.size w w6) := ⟨below_step HB5.out hb⟩; have HO6 := Aside0.mk (Kd.R_below HO5.out hb); obtain ⟨AM, cM, eM, hlM, hCM⟩ := Kd.R_reads ho; subst eM; have HCM := Aside0.mk hCM; clear hg_ hnew_ ho hb hCM)) | ((with_reducible refine gate_builtin (b := .append) (xs := #[.tmp 17, .tmp 21]) rfl ?_); at_builtin; go_must (refine Kd.R_append_rows (Kd.int .u8) (w0 := w) w.heap.size rfl (.tmp 17) (.tmp 21) 23 5 (.int .u8 0) 1 rfl Try.underlying23 infou8 rfl (by decide) (by omega) v5 ([2] ++ packNum x.contract.id) [x.outcome % 256] _ _ _ (fun q => w.heap.size + 1 ≤ q) (fun _ => False) rfl rfl ?aO ?aR (fun _ _ h => h) (fun _ h => h.elim) ?aF ?aB ?aS ?aL ?_; (case aR => exact HCM.out); (case aB => exact HB6.out); (case aO => exact HO6.out); (case aF => intro q hq; have := blk_lt BK6.out; omega); (case aS => exact HB6.out.size); (case aL => have := packNum_len x.contract.id; simp; omega); intro v7 w7 ho hb hgr hat; rw [← HPE.out] at ho; have HO7 := Aside0.mk ho; have HB7 := Aside0.mk hb; clear ho hb hgr hat)))
    go_ret
    exact ⟨⟨_, rfl, Kd.R_mono HO7.out (fun _ _ => trivial)⟩, HB7.out⟩
  · have HPE : Aside0 (packEv x = [1] ++ packCon x.contract) := ⟨by rw [packEv, hv0]; rfl⟩
    clear hv0
    go_enter Try.func69, Try.ntmps69
    go_wp2_with (first | ((with_reducible refine gate_dst (N := 6) rfl ?_); go_must (refine Kd.R_lit (Kd.int .u8) _ 5 ?hg (N := 6) ?hd (xs := ([1] : List Int)) (inner := [.int .u8 1]) (ok := fun _ => True) (okp := fun _ => True) ?hr ?hp (fun _ hk => hk) trivial (Below.refl _ _) (Nat.le_refl _) (by simp) ?_; (case hd => rfl); (case hg => rfl); (case hr => first | (go_simp; done) | (go_simp; rfl)); (case hp => exact (Reps.one (show Kd.M (Kd.int .u8) _ _ _ 1 [.int .u8 1] from rfl) (Reps.none _ _))); intro vL w2 ho hb hg_ hnew_; have BK2 := Aside0.mk (blk_below (blk_new w _) hb); have HB2 : Aside0 (Below w.heap.size w w2) := ⟨below_step (below_alloc (Below.refl w.heap.size w) _) hb⟩; have HO2 : Aside0 (Kd.R (Kd.int .u8) 5 w2 w.heap.size (fun q => w.heap.size + 1 ≤ q) vL [1]) := ⟨Kd.R_lower (Kd.R_mono (Kd.R_bound ho) (fun q h => by simpa using h.2.1)) (by simp)⟩; have k1 := (blk_cell BK2.out 1).trans rfl; have k2 := (blk_cell BK2.out 2).trans rfl; clear hg_ hnew_ ho hb)) | (go_at_call 111; go_must (refine (impl_packContract x.contract _ _ (kContract_mk x.contract l2 (Kd.C_below G2.out HB2.out)) hl).mono ?_; rintro e W3 ⟨⟨v4, rfl, ho⟩, hbw⟩; have BK3 := Aside0.mk (blk_below BK2.out hbw); have HB3 : Aside0 (Below w.heap.size w W3) := ⟨below_step HB2.out hbw⟩; have HO3 := Aside0.mk (Kd.R_below HO2.out hbw); obtain ⟨AP, cP, eP, hlP, hCP⟩ := Kd.R_reads ho; subst eP; have HCP := Aside0.mk hCP; clear ho hbw hCP)) | ((with_reducible refine gate_builtin (b := .append) (xs := #[.tmp 6, .tmp 9]) rfl ?_); at_builtin; go_must (refine Kd.R_append_rows (Kd.int .u8) (w0 := w) w.heap.size rfl (.tmp 6) (.tmp 9) 23 5 (.int .u8 0) 1 rfl Try.underlying23 infou8 rfl (by decide) (by omega) vL ([1] : List Int) (packCon x.contract) _ _ _ (fun q => w.heap.size + 1 ≤ q) (fun _ => False) rfl rfl ?aO ?aR (fun _ _ h => h) (fun _ h => h.elim) ?aF ?aB ?aS ?aL ?_; (case aR => exact HCP.out); (case aB => exact HB3.out); (case aO => exact HO3.out); (case aF => intro q hq; have := blk_lt BK3.out; omega); (case aS => exact HB3.out.size); (case aL => have := packCon_len x.contract; simp; omega); intro v5 w5 ho hb hgr hat; rw [← HPE.out] at ho; have HO5 := Aside0.mk ho; have HB5 := Aside0.mk hb; clear ho hb hgr hat)))
    go_ret
    exact ⟨⟨_, rfl, Kd.R_mono HO5.out (fun _ _ => trivial)⟩, HB5.out⟩

end Go.Proofs.Ytjlhdhbnaagajaa.J
