/- What the laws' comparisons answer. -/
import Derived.Test.YtjlhdhbnaagajaaData
namespace Go.Proofs.Ytjlhdhbnaagajaa.J
open Go.RowKit Go.Proofs.YtjlhdhbnaagajaaW.PrintWords Go.Proofs.YtjlhdhbnaagajaaW.PrintLast Go.Proofs.YtjlhdhbnaagajaaW.PrintMore
set_option linter.unusedVariables false
set_option linter.unusedSimpArgs false

def BoolP (p : Prop) (e : Ending) : Prop := ∃ b : Bool, e = .returned (.bool b) ∧ (b = true ↔ p)
theorem aside0_iff (p : Prop) : Aside0 p ↔ p := ⟨fun h => h.out, fun h => ⟨h⟩⟩
theorem BoolP.imp {p q : Prop} {e : Ending} (h : BoolP p e) (hpq : p ↔ q) : BoolP q e := by obtain ⟨b, rfl, hb⟩ := h; exact ⟨b, rfl, hb.trans hpq⟩
theorem bcell {W w1 : World} (hb : Below W.heap.size W w1) : (∀ b o, b < W.heap.size → w1.cell? ⟨b, o, none⟩ = W.cell? ⟨b, o, none⟩) ∧ (∀ b o, b < W.heap.size → w1.frozen? ⟨b, o, none⟩ = W.frozen? ⟨b, o, none⟩) :=
  ⟨fun b o h => hb.cell (p := ⟨b, o, none⟩) h, fun b o h => hb.frozen (p := ⟨b, o, none⟩) h⟩
/-- Two lists of one length are one where they tell the same at each place. -/
theorem list_eq_of {α : Type} {a b : List α} (z : α) (hl : a.length = b.length) (h : ∀ i, i < a.length → a.getD i z = b.getD i z) : a = b := by
  apply List.ext_getElem hl
  intro i h1 h2
  have := h i h1
  simpa [h1, h2] using this
set_option maxRecDepth 100000 in
set_option maxHeartbeats 800000 in
theorem eqByteS (A0 : Option Addr) (c0 : Nat) (l0 : List Int) (A1 : Option Addr) (c1 : Nat) (l1 : List Int) (w : World) (hr0 : Kd.C (Kd.int .u8) w A0 l0.length l0) (hc0 : l0.length ≤ c0) (hr1 : Kd.C (Kd.int .u8) w A1 l1.length l1) (hc1 : l1.length ≤ c1) (hm : l0.length ≤ 1099511627776) :
    Calls Try.prog 72 #[.slice A0 l0.length c0, .slice A1 l1.length c1] w fun e w' => BoolP (l0 = l1) e ∧ Below w.heap.size w w' := by
  have HR0 := Aside0.mk hr0; have HR1 := Aside0.mk hr1; clear hr0 hr1
  have HB := Aside0.mk (Below.refl w.heap.size w)
  by_cases hl : l0.length = l1.length
  · have b0 : ((l0.length : Int) != (l1.length : Int)) = false := by simp [hl]
    have HL := Aside0.mk hl; clear hl
    go_enter Try.func72, Try.ntmps72
    go_wp2
    go_loopg [5] l0.length (fun n v5 w' => ∃ k : Nat, v5 = .int .i64 k ∧ Aside0 (n + k = l0.length) ∧ Aside0 (∀ i : Nat, i < k → nthu8_ l0 i = nthu8_ l1 i) ∧ Aside0 (Below w.heap.size w w'))
    case atStart => exact ⟨0, rfl, ⟨by omega⟩, ⟨fun i h => by omega⟩, HB⟩
    case round =>
      clear HB
      obtain ⟨k, rfl, HN, HE, HB⟩ := hrel
      by_cases hk : k < l0.length
      · have hk1 : k < l1.length := HL.out ▸ hk
        obtain ⟨ad0, e0, x0⟩ := nthu8 HR0.out k hk
        obtain ⟨ad1, e1, x1⟩ := nthu8 HR1.out k hk1
        cases e0; cases e1
        have X0 := Aside0.mk x0; have X1 := Aside0.mk x1; clear x0 x1
        go_wp2
        go_region_held3 (fun w' => (atu8 w' ad0 k (nthu8_ l0 k)) ∧ (atu8 w' ad1 k (nthu8_ l1 k)) ∧ Below w.heap.size w w') (first | exact ⟨X0.out _ (below_drew1 HB.out), X1.out _ (below_drew1 HB.out), below_drew1 HB.out⟩) (fail)
        have HB2 := Aside0.mk (below_drew1 HB.out)
        by_cases hq : (nthu8_ l0 k) = (nthu8_ l1 k) <;> have HQ := Aside0.mk hq
        · have b1 : ((nthu8_ l0 k) != (nthu8_ l1 k)) = false := by simp [hq]
          have b2 : ((nthu8_ l0 k) == (nthu8_ l1 k)) = true := by simp [hq]
          clear hq
          go_wp2
          go_roundg (gk - 1)
          case measure => have := HN.out; omega
          case rel => exact ⟨k + 1, by go_num, ⟨by have := HN.out; omega⟩, ⟨fun i h => by rcases Nat.lt_succ_iff_lt_or_eq.1 h with h | rfl; exact HE.out i h; exact HQ.out⟩, HB2⟩
        · have b1 : ((nthu8_ l0 k) != (nthu8_ l1 k)) = true := by simpa using hq
          have b2 : ((nthu8_ l0 k) == (nthu8_ l1 k)) = false := by simpa using hq
          clear hq
          go_wp2
          go_ret
          exact ⟨⟨_, rfl, ⟨fun h => (by cases h), fun h => absurd (by rw [h]) HQ.out⟩⟩, HB2.out⟩
      · have : k = l0.length := by have := HN.out; omega
        subst this
        go_wp2
        go_ret
        exact ⟨⟨_, rfl, ⟨fun _ => list_eq_of (0 : Int) HL.out HE.out, fun _ => rfl⟩⟩, HB.out⟩
  · have b0 : ((l0.length : Int) != (l1.length : Int)) = true := by simp; omega
    go_enter Try.func72, Try.ntmps72
    go_wp2
    go_ret
    exact ⟨⟨_, rfl, ⟨fun h => (by cases h), fun h => absurd (by rw [h]) hl⟩⟩, HB.out⟩
set_option maxRecDepth 100000 in
set_option maxHeartbeats 800000 in
theorem eqLeg (x y : Leg) (cx cy : List Value) (w : World) (hx : kLeg.K w x cx) (hy : kLeg.K w y cy) : Calls Try.prog 154 #[.agg cx.toArray, .agg cy.toArray] w fun e w' => BoolP (x = y) e ∧ Below w.heap.size w w' := by
  obtain rfl := kLeg_open hx
  obtain rfl := kLeg_open hy
  have hu := Try.underlying151
  have HB := Aside0.mk (Below.refl w.heap.size w)
  go_enter Try.func154, Try.ntmps154
  go_wp2
  all_goals (go_ret; refine ⟨⟨_, rfl, ?_⟩, by (repeat (first | (with_reducible exact HB.out) | (with_reducible refine below_alloc ?_ _) | (with_reducible refine below_drew1 ?_) | (with_reducible refine pw_below_drewN ?_ _)))⟩; go_light; rw [Leg.eq_iff]; clear hu; simp_all [aside0_iff])
set_option maxRecDepth 100000 in
set_option maxHeartbeats 800000 in
theorem eqLegS (A0 : Option Addr) (c0 : Nat) (l0 : List Leg) (A1 : Option Addr) (c1 : Nat) (l1 : List Leg) (w : World) (hr0 : Kd.C kLeg w A0 l0.length l0) (hc0 : l0.length ≤ c0) (hr1 : Kd.C kLeg w A1 l1.length l1) (hc1 : l1.length ≤ c1) (hm : l0.length ≤ 1099511627776) :
    Calls Try.prog 141 #[.slice A0 l0.length c0, .slice A1 l1.length c1] w fun e w' => BoolP (l0 = l1) e ∧ Below w.heap.size w w' := by
  have HR0 := Aside0.mk hr0; have HR1 := Aside0.mk hr1; clear hr0 hr1
  have HB := Aside0.mk (Below.refl w.heap.size w)
  by_cases hl : l0.length = l1.length
  · have b0 : ((l0.length : Int) != (l1.length : Int)) = false := by simp [hl]
    have HL := Aside0.mk hl; clear hl
    go_enter Try.func141, Try.ntmps141
    go_wp2
    go_loopg [5] l0.length (fun n v5 w' => ∃ k : Nat, v5 = .int .i64 k ∧ Aside0 (n + k = l0.length) ∧ Aside0 (∀ i : Nat, i < k → nthLeg_ l0 i = nthLeg_ l1 i) ∧ Aside0 (Below w.heap.size w w'))
    case atStart => exact ⟨0, rfl, ⟨by omega⟩, ⟨fun i h => by omega⟩, HB⟩
    case round =>
      clear HB
      obtain ⟨k, rfl, HN, HE, HB⟩ := hrel
      by_cases hk : k < l0.length
      · have hk1 : k < l1.length := HL.out ▸ hk
        obtain ⟨ad0, e0, x0⟩ := nthLeg HR0.out k hk
        obtain ⟨ad1, e1, x1⟩ := nthLeg HR1.out k hk1
        cases e0; cases e1
        have X0 := Aside0.mk x0; have X1 := Aside0.mk x1; clear x0 x1
        go_wp2
        go_region_held3 (fun w' => (atLeg w' ad0 k (nthLeg_ l0 k)) ∧ (atLeg w' ad1 k (nthLeg_ l1 k)) ∧ Below w.heap.size w w') (first | exact ⟨X0.out _ (below_drew1 HB.out), X1.out _ (below_drew1 HB.out), below_drew1 HB.out⟩ | exact ⟨X0.out _ HB2.out, X1.out _ HB2.out, HB2.out⟩) (first | (go_at_call 154; refine (eqLeg (nthLeg_ l0 k) (nthLeg_ l1 k) _ _ _ (kLeg_mk _) (kLeg_mk _)).mono ?_; rintro e w2 ⟨⟨b, rfl, hq⟩, hb⟩; have HQ := Aside0.mk hq; have HB2 := Aside0.mk (below_step (below_drew1 HB.out) hb)))
        cases b
        · go_wp2
          go_ret
          exact ⟨⟨_, rfl, ⟨fun h => (by cases h), fun h => absurd (HQ.out.2 (by rw [h])) (by simp)⟩⟩, HB2.out⟩
        · go_wp2
          go_roundg (gk - 1)
          case measure => have := HN.out; omega
          case rel => exact ⟨k + 1, by go_num, ⟨by have := HN.out; omega⟩, ⟨fun i h => by rcases Nat.lt_succ_iff_lt_or_eq.1 h with h | rfl; exact HE.out i h; exact HQ.out.1 (by first | rfl | trivial)⟩, HB2⟩
      · have : k = l0.length := by have := HN.out; omega
        subst this
        go_wp2
        go_ret
        exact ⟨⟨_, rfl, ⟨fun _ => list_eq_of zLeg HL.out HE.out, fun _ => rfl⟩⟩, HB.out⟩
  · have b0 : ((l0.length : Int) != (l1.length : Int)) = true := by simp; omega
    go_enter Try.func141, Try.ntmps141
    go_wp2
    go_ret
    exact ⟨⟨_, rfl, ⟨fun h => (by cases h), fun h => absurd (by rw [h]) hl⟩⟩, HB.out⟩
set_option maxRecDepth 100000 in
set_option maxHeartbeats 800000 in
theorem eqContract (x y : Contract) (cx cy : List Value) (w : World) (hx : kContract.K w x cx) (hy : kContract.K w y cy) (hf : x.fits) : Calls Try.prog 115 #[.agg cx.toArray, .agg cy.toArray] w fun e w' => BoolP (x = y) e ∧ Below w.heap.size w w' := by
  obtain ⟨A1, c1, rfl, l1, g1⟩ := kContract_open hx
  have G1 := Aside0.mk g1; clear g1
  obtain ⟨B1, d1, rfl, m1, g1⟩ := kContract_open hy
  have K1 := Aside0.mk g1; clear g1
  have hu := Try.underlying75
  have HB := Aside0.mk (Below.refl w.heap.size w)
  have ff_legs := hf
  replace ff_legs := Aside0.mk ff_legs
  go_enter Try.func115, Try.ntmps115
  go_wp2_with (first | (go_at_call_of 141 (x.legs.length); refine (eqLegS _ _ _ _ _ _ _ (Kd.C_below G1.out ?hb0) l1 (Kd.C_below K1.out ?hb1) m1 ff_legs.out).mono ?_; (case hb0 => (repeat (first | (with_reducible exact HB.out) | (with_reducible refine below_alloc ?_ _) | (with_reducible refine below_drew1 ?_) | (with_reducible refine pw_below_drewN ?_ _)))); (case hb1 => (repeat (first | (with_reducible exact HB.out) | (with_reducible refine below_alloc ?_ _) | (with_reducible refine below_drew1 ?_) | (with_reducible refine pw_below_drewN ?_ _)))); rintro e w1 ⟨⟨b, rfl, hb⟩, hbw⟩; have HB1 : Aside0 (Below w.heap.size w w1) := ⟨below_step (by (repeat (first | (with_reducible exact HB.out) | (with_reducible refine below_alloc ?_ _) | (with_reducible refine below_drew1 ?_) | (with_reducible refine pw_below_drewN ?_ _)))) hbw⟩; clear HB; have HB := HB1; clear HB1; obtain ⟨hc, hf⟩ := bcell hbw; have Q0 := Aside0.mk hb; clear hb hbw))
  all_goals (go_ret; refine ⟨⟨_, rfl, ?_⟩, by (repeat (first | (with_reducible exact HB.out) | (with_reducible refine below_alloc ?_ _) | (with_reducible refine below_drew1 ?_) | (with_reducible refine pw_below_drewN ?_ _)))⟩; go_light; rw [Contract.eq_iff]; clear hu; simp_all [aside0_iff])
set_option maxRecDepth 100000 in
set_option maxHeartbeats 800000 in
theorem eqEvent (x y : Event) (cx cy : List Value) (w : World) (hx : kEvent.K w x cx) (hy : kEvent.K w y cy) (hf : x.fits) : Calls Try.prog 70 #[.agg cx.toArray, .agg cy.toArray] w fun e w' => BoolP (x = y) e ∧ Below w.heap.size w w' := by
  obtain ⟨A2, c2, rfl, l2, g2⟩ := kEvent_open hx
  have G2 := Aside0.mk g2; clear g2
  obtain ⟨B2, d2, rfl, m2, g2⟩ := kEvent_open hy
  have K2 := Aside0.mk g2; clear g2
  have hu := Try.underlying77
  have HB := Aside0.mk (Below.refl w.heap.size w)
  have fs_contract := hf
  replace fs_contract := Aside0.mk fs_contract
  go_enter Try.func70, Try.ntmps70
  go_wp2_with (first | (go_at_call 115; refine (eqContract _ _ _ _ _ (kContract_mk x.contract l2 (Kd.C_below G2.out ?hb0)) (kContract_mk y.contract m2 (Kd.C_below K2.out ?hb1)) fs_contract.out).mono ?_; (case hb0 => (repeat (first | (with_reducible exact HB.out) | (with_reducible refine below_alloc ?_ _) | (with_reducible refine below_drew1 ?_) | (with_reducible refine pw_below_drewN ?_ _)))); (case hb1 => (repeat (first | (with_reducible exact HB.out) | (with_reducible refine below_alloc ?_ _) | (with_reducible refine below_drew1 ?_) | (with_reducible refine pw_below_drewN ?_ _)))); rintro e w1 ⟨⟨b, rfl, hb⟩, hbw⟩; have HB1 : Aside0 (Below w.heap.size w w1) := ⟨below_step (by (repeat (first | (with_reducible exact HB.out) | (with_reducible refine below_alloc ?_ _) | (with_reducible refine below_drew1 ?_) | (with_reducible refine pw_below_drewN ?_ _)))) hbw⟩; clear HB; have HB := HB1; clear HB1; obtain ⟨hc, hf⟩ := bcell hbw; have Q0 := Aside0.mk hb; clear hb hbw))
  all_goals (go_ret; refine ⟨⟨_, rfl, ?_⟩, by (repeat (first | (with_reducible exact HB.out) | (with_reducible refine below_alloc ?_ _) | (with_reducible refine below_drew1 ?_) | (with_reducible refine pw_below_drewN ?_ _)))⟩; go_light; rw [Event.eq_iff]; clear hu; simp_all [aside0_iff])
set_option maxRecDepth 100000 in
set_option maxHeartbeats 800000 in
theorem eqEventS (A0 : Option Addr) (c0 : Nat) (l0 : List Event) (A1 : Option Addr) (c1 : Nat) (l1 : List Event) (w : World) (hr0 : Kd.C kEvent w A0 l0.length l0) (hc0 : l0.length ≤ c0) (hr1 : Kd.C kEvent w A1 l1.length l1) (hc1 : l1.length ≤ c1) (hm : l0.length ≤ 1099511627776) (hf : ∀ i, (nthEvent_ l0 i).fits) :
    Calls Try.prog 32 #[.slice A0 l0.length c0, .slice A1 l1.length c1] w fun e w' => BoolP (l0 = l1) e ∧ Below w.heap.size w w' := by
  have HR0 := Aside0.mk hr0; have HR1 := Aside0.mk hr1; clear hr0 hr1; replace hf := Aside0.mk hf
  have HB := Aside0.mk (Below.refl w.heap.size w)
  by_cases hl : l0.length = l1.length
  · have b0 : ((l0.length : Int) != (l1.length : Int)) = false := by simp [hl]
    have HL := Aside0.mk hl; clear hl
    go_enter Try.func32, Try.ntmps32
    go_wp2
    go_loopg [5] l0.length (fun n v5 w' => ∃ k : Nat, v5 = .int .i64 k ∧ Aside0 (n + k = l0.length) ∧ Aside0 (∀ i : Nat, i < k → nthEvent_ l0 i = nthEvent_ l1 i) ∧ Aside0 (Below w.heap.size w w'))
    case atStart => exact ⟨0, rfl, ⟨by omega⟩, ⟨fun i h => by omega⟩, HB⟩
    case round =>
      clear HB
      obtain ⟨k, rfl, HN, HE, HB⟩ := hrel
      by_cases hk : k < l0.length
      · have hk1 : k < l1.length := HL.out ▸ hk
        obtain ⟨ad0, A2, c2, e0, x0, l2, g2⟩ := nthEvent HR0.out k hk
        obtain ⟨ad1, B2, d2, e1, x1, m2, k2⟩ := nthEvent HR1.out k hk1
        cases e0; cases e1
        have X0 := Aside0.mk x0; have X1 := Aside0.mk x1; clear x0 x1
        have G2 := Aside0.mk g2; have K2 := Aside0.mk k2; clear g2 k2
        go_wp2
        go_region_held3 (fun w' => (atEvent w' ad0 k (nthEvent_ l0 k) A2 c2) ∧ (atEvent w' ad1 k (nthEvent_ l1 k) B2 d2) ∧ Below w.heap.size w w') (first | exact ⟨X0.out _ (below_drew1 HB.out), X1.out _ (below_drew1 HB.out), below_drew1 HB.out⟩ | exact ⟨X0.out _ HB2.out, X1.out _ HB2.out, HB2.out⟩) (first | (go_at_call 70; refine (eqEvent (nthEvent_ l0 k) (nthEvent_ l1 k) _ _ _ (kEvent_mk _ l2 (G2.out _ ?hb0)) (kEvent_mk _ m2 (K2.out _ ?hb1)) (hf.out k)).mono ?_; (case hb0 => exact below_drew1 HB.out); (case hb1 => exact below_drew1 HB.out); rintro e w2 ⟨⟨b, rfl, hq⟩, hb⟩; have HQ := Aside0.mk hq; have HB2 := Aside0.mk (below_step (below_drew1 HB.out) hb)))
        cases b
        · go_wp2
          go_ret
          exact ⟨⟨_, rfl, ⟨fun h => (by cases h), fun h => absurd (HQ.out.2 (by rw [h])) (by simp)⟩⟩, HB2.out⟩
        · go_wp2
          go_roundg (gk - 1)
          case measure => have := HN.out; omega
          case rel => exact ⟨k + 1, by go_num, ⟨by have := HN.out; omega⟩, ⟨fun i h => by rcases Nat.lt_succ_iff_lt_or_eq.1 h with h | rfl; exact HE.out i h; exact HQ.out.1 (by first | rfl | trivial)⟩, HB2⟩
      · have : k = l0.length := by have := HN.out; omega
        subst this
        go_wp2
        go_ret
        exact ⟨⟨_, rfl, ⟨fun _ => list_eq_of zEvent HL.out HE.out, fun _ => rfl⟩⟩, HB.out⟩
  · have b0 : ((l0.length : Int) != (l1.length : Int)) = true := by simp; omega
    go_enter Try.func32, Try.ntmps32
    go_wp2
    go_ret
    exact ⟨⟨_, rfl, ⟨fun h => (by cases h), fun h => absurd (by rw [h]) hl⟩⟩, HB.out⟩
set_option maxRecDepth 100000 in
set_option maxHeartbeats 800000 in
theorem eqEventsRes (x y : EventsRes) (cx cy : List Value) (w : World) (hx : kEventsRes.K w x cx) (hy : kEventsRes.K w y cy) (hf : x.fits) : Calls Try.prog 9 #[.agg cx.toArray, .agg cy.toArray] w fun e w' => BoolP (x = y) e ∧ Below w.heap.size w w' := by
  obtain ⟨A1, c1, rfl, l1, g1⟩ := kEventsRes_open hx
  have G1 := Aside0.mk g1; clear g1
  obtain ⟨B1, d1, rfl, m1, g1⟩ := kEventsRes_open hy
  have K1 := Aside0.mk g1; clear g1
  have hu := Try.underlying31
  have HB := Aside0.mk (Below.refl w.heap.size w)
  obtain ⟨ff_events, fn_events⟩ := hf
  replace ff_events := Aside0.mk ff_events
  replace fn_events := Aside0.mk fn_events
  go_enter Try.func9, Try.ntmps9
  go_wp2_with (first | (go_at_call_of 32 (x.events.length); refine (eqEventS _ _ _ _ _ _ _ (Kd.C_below G1.out ?hb0) l1 (Kd.C_below K1.out ?hb1) m1 ff_events.out fn_events.out).mono ?_; (case hb0 => (repeat (first | (with_reducible exact HB.out) | (with_reducible refine below_alloc ?_ _) | (with_reducible refine below_drew1 ?_) | (with_reducible refine pw_below_drewN ?_ _)))); (case hb1 => (repeat (first | (with_reducible exact HB.out) | (with_reducible refine below_alloc ?_ _) | (with_reducible refine below_drew1 ?_) | (with_reducible refine pw_below_drewN ?_ _)))); rintro e w1 ⟨⟨b, rfl, hb⟩, hbw⟩; have HB1 : Aside0 (Below w.heap.size w w1) := ⟨below_step (by (repeat (first | (with_reducible exact HB.out) | (with_reducible refine below_alloc ?_ _) | (with_reducible refine below_drew1 ?_) | (with_reducible refine pw_below_drewN ?_ _)))) hbw⟩; clear HB; have HB := HB1; clear HB1; obtain ⟨hc, hf⟩ := bcell hbw; have Q0 := Aside0.mk hb; clear hb hbw))
  all_goals (go_ret; refine ⟨⟨_, rfl, ?_⟩, by (repeat (first | (with_reducible exact HB.out) | (with_reducible refine below_alloc ?_ _) | (with_reducible refine below_drew1 ?_) | (with_reducible refine pw_below_drewN ?_ _)))⟩; go_light; rw [EventsRes.eq_iff]; clear hu; simp_all [aside0_iff])
set_option maxRecDepth 100000 in
set_option maxHeartbeats 800000 in
theorem eqBalance (x y : Balance) (cx cy : List Value) (w : World) (hx : kBalance.K w x cx) (hy : kBalance.K w y cy) : Calls Try.prog 71 #[.agg cx.toArray, .agg cy.toArray] w fun e w' => BoolP (x = y) e ∧ Below w.heap.size w w' := by
  obtain rfl := kBalance_open hx
  obtain rfl := kBalance_open hy
  have hu := Try.underlying110
  have HB := Aside0.mk (Below.refl w.heap.size w)
  go_enter Try.func71, Try.ntmps71
  go_wp2
  all_goals (go_ret; refine ⟨⟨_, rfl, ?_⟩, by (repeat (first | (with_reducible exact HB.out) | (with_reducible refine below_alloc ?_ _) | (with_reducible refine below_drew1 ?_) | (with_reducible refine pw_below_drewN ?_ _)))⟩; go_light; rw [Balance.eq_iff]; clear hu; simp_all [aside0_iff])
set_option maxRecDepth 100000 in
set_option maxHeartbeats 800000 in
theorem eqBalanceS (A0 : Option Addr) (c0 : Nat) (l0 : List Balance) (A1 : Option Addr) (c1 : Nat) (l1 : List Balance) (w : World) (hr0 : Kd.C kBalance w A0 l0.length l0) (hc0 : l0.length ≤ c0) (hr1 : Kd.C kBalance w A1 l1.length l1) (hc1 : l1.length ≤ c1) (hm : l0.length ≤ 1099511627776) :
    Calls Try.prog 33 #[.slice A0 l0.length c0, .slice A1 l1.length c1] w fun e w' => BoolP (l0 = l1) e ∧ Below w.heap.size w w' := by
  have HR0 := Aside0.mk hr0; have HR1 := Aside0.mk hr1; clear hr0 hr1
  have HB := Aside0.mk (Below.refl w.heap.size w)
  by_cases hl : l0.length = l1.length
  · have b0 : ((l0.length : Int) != (l1.length : Int)) = false := by simp [hl]
    have HL := Aside0.mk hl; clear hl
    go_enter Try.func33, Try.ntmps33
    go_wp2
    go_loopg [5] l0.length (fun n v5 w' => ∃ k : Nat, v5 = .int .i64 k ∧ Aside0 (n + k = l0.length) ∧ Aside0 (∀ i : Nat, i < k → nthBalance_ l0 i = nthBalance_ l1 i) ∧ Aside0 (Below w.heap.size w w'))
    case atStart => exact ⟨0, rfl, ⟨by omega⟩, ⟨fun i h => by omega⟩, HB⟩
    case round =>
      clear HB
      obtain ⟨k, rfl, HN, HE, HB⟩ := hrel
      by_cases hk : k < l0.length
      · have hk1 : k < l1.length := HL.out ▸ hk
        obtain ⟨ad0, e0, x0⟩ := nthBalance HR0.out k hk
        obtain ⟨ad1, e1, x1⟩ := nthBalance HR1.out k hk1
        cases e0; cases e1
        have X0 := Aside0.mk x0; have X1 := Aside0.mk x1; clear x0 x1
        go_wp2
        go_region_held3 (fun w' => (atBalance w' ad0 k (nthBalance_ l0 k)) ∧ (atBalance w' ad1 k (nthBalance_ l1 k)) ∧ Below w.heap.size w w') (first | exact ⟨X0.out _ (below_drew1 HB.out), X1.out _ (below_drew1 HB.out), below_drew1 HB.out⟩ | exact ⟨X0.out _ HB2.out, X1.out _ HB2.out, HB2.out⟩) (first | (go_at_call 71; refine (eqBalance (nthBalance_ l0 k) (nthBalance_ l1 k) _ _ _ (kBalance_mk _) (kBalance_mk _)).mono ?_; rintro e w2 ⟨⟨b, rfl, hq⟩, hb⟩; have HQ := Aside0.mk hq; have HB2 := Aside0.mk (below_step (below_drew1 HB.out) hb)))
        cases b
        · go_wp2
          go_ret
          exact ⟨⟨_, rfl, ⟨fun h => (by cases h), fun h => absurd (HQ.out.2 (by rw [h])) (by simp)⟩⟩, HB2.out⟩
        · go_wp2
          go_roundg (gk - 1)
          case measure => have := HN.out; omega
          case rel => exact ⟨k + 1, by go_num, ⟨by have := HN.out; omega⟩, ⟨fun i h => by rcases Nat.lt_succ_iff_lt_or_eq.1 h with h | rfl; exact HE.out i h; exact HQ.out.1 (by first | rfl | trivial)⟩, HB2⟩
      · have : k = l0.length := by have := HN.out; omega
        subst this
        go_wp2
        go_ret
        exact ⟨⟨_, rfl, ⟨fun _ => list_eq_of zBalance HL.out HE.out, fun _ => rfl⟩⟩, HB.out⟩
  · have b0 : ((l0.length : Int) != (l1.length : Int)) = true := by simp; omega
    go_enter Try.func33, Try.ntmps33
    go_wp2
    go_ret
    exact ⟨⟨_, rfl, ⟨fun h => (by cases h), fun h => absurd (by rw [h]) hl⟩⟩, HB.out⟩
set_option maxRecDepth 100000 in
set_option maxHeartbeats 800000 in
theorem eqLog (x y : Log) (cx cy : List Value) (w : World) (hx : kLog.K w x cx) (hy : kLog.K w y cy) (hf : x.fits) : Calls Try.prog 34 #[.agg cx.toArray, .agg cy.toArray] w fun e w' => BoolP (x = y) e ∧ Below w.heap.size w w' := by
  obtain ⟨A0, c0, A1, c1, rfl, l0, g0, l1, g1⟩ := kLog_open hx
  have G0 := Aside0.mk g0; clear g0
  have G1 := Aside0.mk g1; clear g1
  obtain ⟨B0, d0, B1, d1, rfl, m0, g0, m1, g1⟩ := kLog_open hy
  have K0 := Aside0.mk g0; clear g0
  have K1 := Aside0.mk g1; clear g1
  have hu := Try.underlying34
  have HB := Aside0.mk (Below.refl w.heap.size w)
  obtain ⟨ff_synced, ff_loose⟩ := hf
  replace ff_synced := Aside0.mk ff_synced
  replace ff_loose := Aside0.mk ff_loose
  go_enter Try.func34, Try.ntmps34
  go_wp2_with (first | (go_at_call_of 72 (x.synced.length); refine (eqByteS _ _ _ _ _ _ _ (Kd.C_below G0.out ?hb0) l0 (Kd.C_below K0.out ?hb1) m0 ff_synced.out).mono ?_; (case hb0 => (repeat (first | (with_reducible exact HB.out) | (with_reducible refine below_alloc ?_ _) | (with_reducible refine below_drew1 ?_) | (with_reducible refine pw_below_drewN ?_ _)))); (case hb1 => (repeat (first | (with_reducible exact HB.out) | (with_reducible refine below_alloc ?_ _) | (with_reducible refine below_drew1 ?_) | (with_reducible refine pw_below_drewN ?_ _)))); rintro e w1 ⟨⟨b, rfl, hb⟩, hbw⟩; have HB1 : Aside0 (Below w.heap.size w w1) := ⟨below_step (by (repeat (first | (with_reducible exact HB.out) | (with_reducible refine below_alloc ?_ _) | (with_reducible refine below_drew1 ?_) | (with_reducible refine pw_below_drewN ?_ _)))) hbw⟩; clear HB; have HB := HB1; clear HB1; obtain ⟨hc, hf⟩ := bcell hbw; have Q0 := Aside0.mk hb; clear hb hbw) | (go_at_call_of 72 (x.loose.length); refine (eqByteS _ _ _ _ _ _ _ (Kd.C_below G1.out ?hb0) l1 (Kd.C_below K1.out ?hb1) m1 ff_loose.out).mono ?_; (case hb0 => (repeat (first | (with_reducible exact HB.out) | (with_reducible refine below_alloc ?_ _) | (with_reducible refine below_drew1 ?_) | (with_reducible refine pw_below_drewN ?_ _)))); (case hb1 => (repeat (first | (with_reducible exact HB.out) | (with_reducible refine below_alloc ?_ _) | (with_reducible refine below_drew1 ?_) | (with_reducible refine pw_below_drewN ?_ _)))); rintro e w1 ⟨⟨b, rfl, hb⟩, hbw⟩; have HB1 : Aside0 (Below w.heap.size w w1) := ⟨below_step (by (repeat (first | (with_reducible exact HB.out) | (with_reducible refine below_alloc ?_ _) | (with_reducible refine below_drew1 ?_) | (with_reducible refine pw_below_drewN ?_ _)))) hbw⟩; clear HB; have HB := HB1; clear HB1; obtain ⟨hc, hf⟩ := bcell hbw; have Q1 := Aside0.mk hb; clear hb hbw))
  all_goals (go_ret; refine ⟨⟨_, rfl, ?_⟩, by (repeat (first | (with_reducible exact HB.out) | (with_reducible refine below_alloc ?_ _) | (with_reducible refine below_drew1 ?_) | (with_reducible refine pw_below_drewN ?_ _)))⟩; go_light; rw [Log.eq_iff]; clear hu; simp_all [aside0_iff])
set_option maxRecDepth 100000 in
set_option maxHeartbeats 800000 in
theorem eqJournal (x y : Journal) (cx cy : List Value) (w : World) (hx : kJournal.K w x cx) (hy : kJournal.K w y cy) (hf : x.fits) : Calls Try.prog 10 #[.agg cx.toArray, .agg cy.toArray] w fun e w' => BoolP (x = y) e ∧ Below w.heap.size w w' := by
  obtain ⟨A1, c1, A2, c2, A3, c3, rfl, l1, g1, l2, g2, l3, g3⟩ := kJournal_open hx
  have G1 := Aside0.mk g1; clear g1
  have G2 := Aside0.mk g2; clear g2
  have G3 := Aside0.mk g3; clear g3
  obtain ⟨B1, d1, B2, d2, B3, d3, rfl, m1, g1, m2, g2, m3, g3⟩ := kJournal_open hy
  have K1 := Aside0.mk g1; clear g1
  have K2 := Aside0.mk g2; clear g2
  have K3 := Aside0.mk g3; clear g3
  have hu := Try.underlying36
  have HB := Aside0.mk (Below.refl w.heap.size w)
  obtain ⟨ff_start, fs_log⟩ := hf
  replace ff_start := Aside0.mk ff_start
  replace fs_log := Aside0.mk fs_log
  go_enter Try.func10, Try.ntmps10
  go_wp2_with (first | (go_at_call_of 33 (x.start.length); refine (eqBalanceS _ _ _ _ _ _ _ (Kd.C_below G1.out ?hb0) l1 (Kd.C_below K1.out ?hb1) m1 ff_start.out).mono ?_; (case hb0 => (repeat (first | (with_reducible exact HB.out) | (with_reducible refine below_alloc ?_ _) | (with_reducible refine below_drew1 ?_) | (with_reducible refine pw_below_drewN ?_ _)))); (case hb1 => (repeat (first | (with_reducible exact HB.out) | (with_reducible refine below_alloc ?_ _) | (with_reducible refine below_drew1 ?_) | (with_reducible refine pw_below_drewN ?_ _)))); rintro e w1 ⟨⟨b, rfl, hb⟩, hbw⟩; have HB1 : Aside0 (Below w.heap.size w w1) := ⟨below_step (by (repeat (first | (with_reducible exact HB.out) | (with_reducible refine below_alloc ?_ _) | (with_reducible refine below_drew1 ?_) | (with_reducible refine pw_below_drewN ?_ _)))) hbw⟩; clear HB; have HB := HB1; clear HB1; obtain ⟨hc, hf⟩ := bcell hbw; have Q0 := Aside0.mk hb; clear hb hbw) | (go_at_call 34; refine (eqLog _ _ _ _ _ (kLog_mk x.log l2 (Kd.C_below G2.out ?hb0) l3 (Kd.C_below G3.out ?hb1)) (kLog_mk y.log m2 (Kd.C_below K2.out ?hb2) m3 (Kd.C_below K3.out ?hb3)) fs_log.out).mono ?_; (case hb0 => (repeat (first | (with_reducible exact HB.out) | (with_reducible refine below_alloc ?_ _) | (with_reducible refine below_drew1 ?_) | (with_reducible refine pw_below_drewN ?_ _)))); (case hb1 => (repeat (first | (with_reducible exact HB.out) | (with_reducible refine below_alloc ?_ _) | (with_reducible refine below_drew1 ?_) | (with_reducible refine pw_below_drewN ?_ _)))); (case hb2 => (repeat (first | (with_reducible exact HB.out) | (with_reducible refine below_alloc ?_ _) | (with_reducible refine below_drew1 ?_) | (with_reducible refine pw_below_drewN ?_ _)))); (case hb3 => (repeat (first | (with_reducible exact HB.out) | (with_reducible refine below_alloc ?_ _) | (with_reducible refine below_drew1 ?_) | (with_reducible refine pw_below_drewN ?_ _)))); rintro e w1 ⟨⟨b, rfl, hb⟩, hbw⟩; have HB1 : Aside0 (Below w.heap.size w w1) := ⟨below_step (by (repeat (first | (with_reducible exact HB.out) | (with_reducible refine below_alloc ?_ _) | (with_reducible refine below_drew1 ?_) | (with_reducible refine pw_below_drewN ?_ _)))) hbw⟩; clear HB; have HB := HB1; clear HB1; obtain ⟨hc, hf⟩ := bcell hbw; have Q1 := Aside0.mk hb; clear hb hbw))
  all_goals (go_ret; refine ⟨⟨_, rfl, ?_⟩, by (repeat (first | (with_reducible exact HB.out) | (with_reducible refine below_alloc ?_ _) | (with_reducible refine below_drew1 ?_) | (with_reducible refine pw_below_drewN ?_ _)))⟩; go_light; rw [Journal.eq_iff]; clear hu; simp_all [aside0_iff])
end Go.Proofs.Ytjlhdhbnaagajaa.J
