/- The reference's EventFault. -/
import Derived.Test.YtjlhdhbnaagajaaPure
namespace Go.Proofs.Ytjlhdhbnaagajaa.J
open Go.RowKit Go.Proofs.YtjlhdhbnaagajaaW.PrintWords Go.Proofs.YtjlhdhbnaagajaaW.PrintLast Go.Proofs.YtjlhdhbnaagajaaW.PrintMore
set_option linter.unusedVariables false
set_option linter.unusedSimpArgs false

set_option maxRecDepth 100000 in
set_option maxHeartbeats 800000 in
theorem spec_EventFault (x : Event) (cx : List Value) (w : World) (hx : kEvent.K w x cx) (hl : x.contract.legs.length ≤ 1099511627776) : Calls Try.prog 106 #[.agg cx.toArray] w fun e w' => e = .returned (.int .i64 (eventFault x)) ∧ Below w.heap.size w w' := by
  obtain ⟨A2, c2, rfl, l2, g2⟩ := kEvent_open hx
  have G2 := Aside0.mk g2; clear g2 hx
  have hu := Try.underlying75
  have hv := Try.underlying77
  have HB := Aside0.mk (Below.refl w.heap.size w)
  cases hv0 : x.vote
  · cases h1 : isId x.contract.id
    · have HF : Aside0 (eventFault x = 3) := ⟨by simp [eventFault, hv0, h1]⟩
      go_enter Try.func106, Try.ntmps106
      go_wp2_with (first | (go_at_call 133; refine (spec_l1Id _ _).mono ?_; rintro e w' ⟨rfl, rfl⟩))
      go_ret
      exact ⟨ret_int HF.out.symm, by (repeat (first | (with_reducible exact HB.out) | (with_reducible refine below_alloc ?_ _) | (with_reducible refine below_drew1 ?_) | (with_reducible refine pw_below_drewN ?_ _)))⟩
    cases h2 : inB x.outcome 1 2
    · have HF : Aside0 (eventFault x = 3) := ⟨by simp [eventFault, hv0, h1, h2]⟩
      go_enter Try.func106, Try.ntmps106
      go_wp2_with (first | (go_at_call 133; refine (spec_l1Id _ _).mono ?_; rintro e w' ⟨rfl, rfl⟩) | (go_at_call 41; refine (spec_l1In _ _ _ _).mono ?_; rintro e w' ⟨rfl, rfl⟩))
      go_ret
      exact ⟨ret_int HF.out.symm, by (repeat (first | (with_reducible exact HB.out) | (with_reducible refine below_alloc ?_ _) | (with_reducible refine below_drew1 ?_) | (with_reducible refine pw_below_drewN ?_ _)))⟩
    by_cases h3 : 0 < x.contract.legs.length
    · have HF : Aside0 (eventFault x = 1) := ⟨by simp [eventFault, hv0, h1, h2, h3]⟩
      have t3 : decide (0 < x.contract.legs.length) = true := decide_eq_true h3
      clear h3
      go_enter Try.func106, Try.ntmps106
      go_wp2_with (first | (go_at_call 133; refine (spec_l1Id _ _).mono ?_; rintro e w' ⟨rfl, rfl⟩) | (go_at_call 41; refine (spec_l1In _ _ _ _).mono ?_; rintro e w' ⟨rfl, rfl⟩))
      go_ret
      exact ⟨ret_int HF.out.symm, by (repeat (first | (with_reducible exact HB.out) | (with_reducible refine below_alloc ?_ _) | (with_reducible refine below_drew1 ?_) | (with_reducible refine pw_below_drewN ?_ _)))⟩
    · have HF : Aside0 (eventFault x = 0) := ⟨by simp [eventFault, hv0, h1, h2, h3]⟩
      have t3 : decide (0 < x.contract.legs.length) = false := decide_eq_false h3
      clear h3
      go_enter Try.func106, Try.ntmps106
      go_wp2_with (first | (go_at_call 133; refine (spec_l1Id _ _).mono ?_; rintro e w' ⟨rfl, rfl⟩) | (go_at_call 41; refine (spec_l1In _ _ _ _).mono ?_; rintro e w' ⟨rfl, rfl⟩))
      go_ret
      exact ⟨ret_int HF.out.symm, by (repeat (first | (with_reducible exact HB.out) | (with_reducible refine below_alloc ?_ _) | (with_reducible refine below_drew1 ?_) | (with_reducible refine pw_below_drewN ?_ _)))⟩
  · have ARM : ∀ W, Below w.heap.size w W → Calls Try.prog 132 #[.agg #[.int .i64 x.contract.id, .slice A2 x.contract.legs.length c2]] W fun e w' => e = .returned (.int .i64 (contractFault x.contract)) ∧ Below W.heap.size W w' := fun W hb => spec_ContractFault x.contract _ W (kContract_mk x.contract l2 (Kd.C_below G2.out hb)) hl
    have HA := Aside0.mk ARM; clear ARM
    by_cases hc : contractFault x.contract = 0
    · have tc : (contractFault x.contract != 0) = false := by simpa using hc
      by_cases ho : x.outcome = 0
      · have t0 : (x.outcome != 0) = false := by simpa using ho
        have HF : Aside0 (eventFault x = 0) := ⟨by simp [eventFault, hv0, hc, ho]⟩
        clear hc ho
        go_enter Try.func106, Try.ntmps106
        go_wp2_with (first | (go_at_call 132; go_must (refine (HA.out _ (by (repeat (first | (with_reducible exact HB.out) | (with_reducible refine below_alloc ?_ _) | (with_reducible refine below_drew1 ?_) | (with_reducible refine pw_below_drewN ?_ _))))).mono ?_; rintro e W1 ⟨rfl, hbw⟩; have hsz := hbw.size; simp at hsz; have z1 : w.heap.size < W1.heap.size := (by omega); obtain ⟨hc1, hf1⟩ := bcell hbw; have HB1 : Aside0 (Below w.heap.size w W1) := ⟨below_step (by (repeat (first | (with_reducible exact HB.out) | (with_reducible refine below_alloc ?_ _) | (with_reducible refine below_drew1 ?_) | (with_reducible refine pw_below_drewN ?_ _)))) hbw⟩; clear HB; have HB := HB1; clear HB1 hbw hsz)))
        go_ret
        exact ⟨ret_int HF.out.symm, by (repeat (first | (with_reducible exact HB.out) | (with_reducible refine below_alloc ?_ _) | (with_reducible refine below_drew1 ?_) | (with_reducible refine pw_below_drewN ?_ _)))⟩
      · have t0 : (x.outcome != 0) = true := by simpa using ho
        have HF : Aside0 (eventFault x = 1) := ⟨by simp [eventFault, hv0, hc, ho]⟩
        clear hc ho
        go_enter Try.func106, Try.ntmps106
        go_wp2_with (first | (go_at_call 132; go_must (refine (HA.out _ (by (repeat (first | (with_reducible exact HB.out) | (with_reducible refine below_alloc ?_ _) | (with_reducible refine below_drew1 ?_) | (with_reducible refine pw_below_drewN ?_ _))))).mono ?_; rintro e W1 ⟨rfl, hbw⟩; have hsz := hbw.size; simp at hsz; have z1 : w.heap.size < W1.heap.size := (by omega); obtain ⟨hc1, hf1⟩ := bcell hbw; have HB1 : Aside0 (Below w.heap.size w W1) := ⟨below_step (by (repeat (first | (with_reducible exact HB.out) | (with_reducible refine below_alloc ?_ _) | (with_reducible refine below_drew1 ?_) | (with_reducible refine pw_below_drewN ?_ _)))) hbw⟩; clear HB; have HB := HB1; clear HB1 hbw hsz)))
        go_ret
        exact ⟨ret_int HF.out.symm, by (repeat (first | (with_reducible exact HB.out) | (with_reducible refine below_alloc ?_ _) | (with_reducible refine below_drew1 ?_) | (with_reducible refine pw_below_drewN ?_ _)))⟩
    · have tc : (contractFault x.contract != 0) = true := by simpa using hc
      have HF : Aside0 (eventFault x = contractFault x.contract) := ⟨by simp [eventFault, hv0, hc]⟩
      clear hc
      go_enter Try.func106, Try.ntmps106
      go_wp2_with (first | (go_at_call 132; go_must (refine (HA.out _ (by (repeat (first | (with_reducible exact HB.out) | (with_reducible refine below_alloc ?_ _) | (with_reducible refine below_drew1 ?_) | (with_reducible refine pw_below_drewN ?_ _))))).mono ?_; rintro e W1 ⟨rfl, hbw⟩; have hsz := hbw.size; simp at hsz; have z1 : w.heap.size < W1.heap.size := (by omega); obtain ⟨hc1, hf1⟩ := bcell hbw; have HB1 : Aside0 (Below w.heap.size w W1) := ⟨below_step (by (repeat (first | (with_reducible exact HB.out) | (with_reducible refine below_alloc ?_ _) | (with_reducible refine below_drew1 ?_) | (with_reducible refine pw_below_drewN ?_ _)))) hbw⟩; clear HB; have HB := HB1; clear HB1 hbw hsz)))
      go_ret
      exact ⟨ret_int HF.out.symm, by (repeat (first | (with_reducible exact HB.out) | (with_reducible refine below_alloc ?_ _) | (with_reducible refine below_drew1 ?_) | (with_reducible refine pw_below_drewN ?_ _)))⟩

end Go.Proofs.Ytjlhdhbnaagajaa.J
