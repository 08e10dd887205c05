/- The reference's l14Unpack. -/
import Derived.Test.YtjlhdhbnaagajaaSpecF
namespace Go.Proofs.Ytjlhdhbnaagajaa.J
open Go.RowKit Go.Proofs.YtjlhdhbnaagajaaW.PrintWords Go.Proofs.YtjlhdhbnaagajaaW.PrintLast Go.Proofs.YtjlhdhbnaagajaaW.PrintMore
set_option linter.unusedVariables false
set_option linter.unusedSimpArgs false

set_option maxRecDepth 100000 in
set_option maxHeartbeats 3200000 in
theorem spec_l14Unpack (A : Option Addr) (c : Nat) (l : List Int) (w : World) (hC : Kd.C (Kd.int .u8) w A l.length l) (hlc : l.length ≤ c) (hb : Bytes l) : Calls Try.prog 59 #[.slice A l.length c] w fun e w' => (∃ (x : Event) (v : Value), e = .returned (.tuple #[.agg #[.bool x.vote, .int .i64 x.contract.id, v, .int .i64 x.outcome], .bool (evOk l)]) ∧ (evOk l = true → x = evOf l) ∧ Kd.R kLeg 151 w' w.heap.size (fun _ => True) v x.contract.legs) ∧ Below w.heap.size w w' := by
  have HC := Aside0.mk hC; have HY := Aside0.mk hb; clear hC hb
  have HB := Aside0.mk (Below.refl w.heap.size w)
  have hu := Try.underlying75
  have hv := Try.underlying77
  by_cases h0 : l.length = 0
  · have HNO : Aside0 (evOk l = false) := ⟨by simp [evOk, h0]⟩
    go_enter Try.func59, Try.ntmps59
    go_wp2
    refine bodyPost_ret (results_ct rfl _ _ w.heap.size 77 #[.bool false, .int .i64 0, .slice none 0 0, .int .i64 0] (0, 0) _ rfl (blk_alloc (blk_new _ _) _) Try.underlying77 rfl (by kernel_rfl)) rfl ?_
    refine ⟨⟨⟨false, ⟨0, []⟩, 0⟩, .slice none 0 0, ?_, fun h => ?_, Kd.R_nil _ _ _ _ _⟩, by (repeat (first | (with_reducible exact HB.out) | (with_reducible refine below_alloc ?_ _) | (with_reducible refine below_drew1 ?_) | (with_reducible refine pw_below_drewN ?_ _)))⟩
    · rw [HNO.out]; rfl
    · rw [HNO.out] at h; cases h
  obtain ⟨ad, e0, x0⟩ := nthu8 HC.out 0 (by omega)
  subst e0
  have X0 : Aside0 (∀ w2, Below w.heap.size w w2 → w2.cell? ad = some (.int .u8 (nthu8_ l 0))) := ⟨fun w2 hb => by have := x0 w2 hb; simpa [atu8, Addr.add] using this⟩
  have hx0 := X0.out _ (below_alloc (below_alloc (Below.refl w.heap.size w) (Obj.cells #[Value.bool false, Value.int IntKind.i64 0, Value.slice none 0 0, Value.int IntKind.i64 0] 77)) (Obj.cells #[Value.bool false, Value.int IntKind.i64 0, Value.slice none 0 0, Value.int IntKind.i64 0] 77))
  clear x0
  have hpos : 0 < l.length := by omega
  by_cases h1 : nthu8_ l 0 = 1
  · obtain ⟨Ac, hcut, hcC, hcl⟩ := cutFrom (some ad) c l 1 1 rfl (by omega) hlc
    have hyd : Bytes (l.drop 1) := fun i => by have := HY.out (i + 1); simpa [nthu8_, List.getD_eq_getElem?_getD, List.getElem?_drop, Nat.add_comm] using this
    have hev : evOk l = unconOk (l.drop 1) ∧ evOf l = ⟨true, conOf (l.drop 1), 0⟩ := ⟨by simp [evOk, h0, h1], by simp [evOf, h1]⟩
    obtain ⟨D, hD⟩ : ∃ D, l.drop 1 = D := ⟨_, rfl⟩
    rw [hD] at hcut hcC hcl hyd hev
    have HCD := Aside0.mk (hcC _ HC.out); have HYD := Aside0.mk hyd; have HE := Aside0.mk hev; clear hcC hyd hev hD
    go_enter Try.func59, Try.ntmps59
    go_wp2_with (first | (go_at_call 104; go_must (refine (spec_l3Uncontract _ _ D _ ?hc hcl HYD.out).mono ?_; (case hc => repeat (first | (with_reducible exact HCD.out) | (with_reducible refine Kd.C_alloc ?_ _))); rintro e W1 ⟨⟨xc, v, rfl, hx, ho⟩, hbw⟩; have BR1 := Aside0.mk (blk_below (blk_alloc (blk_new w (Obj.cells #[Value.bool false, Value.int IntKind.i64 0, Value.slice none 0 0, Value.int IntKind.i64 0] 77)) (Obj.cells #[Value.bool false, Value.int IntKind.i64 0, Value.slice none 0 0, Value.int IntKind.i64 0] 77)) hbw); have BC1 := Aside0.mk (blk_below (blk_new1 w (Obj.cells #[Value.bool false, Value.int IntKind.i64 0, Value.slice none 0 0, Value.int IntKind.i64 0] 77) (Obj.cells #[Value.bool false, Value.int IntKind.i64 0, Value.slice none 0 0, Value.int IntKind.i64 0] 77)) hbw); have hz1 : w.heap.size + 2 ≤ W1.heap.size := (by have := hbw.size; simp at this; omega); have HX := Aside0.mk hx; obtain ⟨Av, dv, ev⟩ := Kd.R_slice ho; subst ev; have HO1 : Aside0 (Kd.R kLeg 151 W1 w.heap.size (fun q => w.heap.size + 2 ≤ q) (.slice Av xc.legs.length dv) xc.legs) := ⟨Kd.R_lower (Kd.R_mono (Kd.R_bound ho) (fun q h => by simpa using h.2.1)) (by simp; omega)⟩; have HB1 := Aside0.mk (below_step (below_alloc (below_alloc (Below.refl w.heap.size w) (Obj.cells #[Value.bool false, Value.int IntKind.i64 0, Value.slice none 0 0, Value.int IntKind.i64 0] 77)) (Obj.cells #[Value.bool false, Value.int IntKind.i64 0, Value.slice none 0 0, Value.int IntKind.i64 0] 77)) hbw); have hc0 := (blk_cell BC1.out 0).trans rfl; have hc1 := (blk_cell BC1.out 1).trans rfl; have hc2 := (blk_cell BC1.out 2).trans rfl; have hc3 := (blk_cell BC1.out 3).trans rfl; have hf0 := blk_frozen BC1.out 0; have hf1 := blk_frozen BC1.out 1; have hf2 := blk_frozen BC1.out 2; have hf3 := blk_frozen BC1.out 3; have hr0 := (blk_cell BR1.out 0).trans rfl; have hr1 := (blk_cell BR1.out 1).trans rfl; have hr2 := (blk_cell BR1.out 2).trans rfl; have hr3 := (blk_cell BR1.out 3).trans rfl; have hg0 := blk_frozen BR1.out 0; have hg1 := blk_frozen BR1.out 1; have hg2 := blk_frozen BR1.out 2; have hg3 := blk_frozen BR1.out 3; have hz2 : w.heap.size < W1.heap.size := (by omega); have hz3 : w.heap.size + 1 < W1.heap.size := (by omega); clear hbw ho hx)))
    refine bodyPost_ret (results_ct rfl _ _ w.heap.size 77 #[.bool true, .int .i64 xc.id, .slice Av xc.legs.length dv, .int .i64 0] (0, 0) _ rfl (blk_alloc (blk_put (cs := #[.bool true, .int .i64 xc.id, .slice Av xc.legs.length dv, .int .i64 0]) (cs' := #[.bool true, .int .i64 xc.id, .slice Av xc.legs.length dv, .int .i64 0]) (blk_put (cs := #[.bool true, .int .i64 xc.id, .slice none 0 0, .int .i64 0]) (cs' := #[.bool true, .int .i64 xc.id, .slice Av xc.legs.length dv, .int .i64 0]) (blk_put (cs := #[.bool true, .int .i64 0, .slice none 0 0, .int .i64 0]) (cs' := #[.bool true, .int .i64 xc.id, .slice none 0 0, .int .i64 0]) (blk_put (cs := #[.bool false, .int .i64 0, .slice none 0 0, .int .i64 0]) (cs' := #[.bool true, .int .i64 0, .slice none 0 0, .int .i64 0]) (by repeat (first | (with_reducible exact BR1.out) | ((with_reducible refine blk_far ?_ ?fne _); (case fne => (first | (simp; done) | (simp; omega)))) | (with_reducible refine blk_alloc ?_ _))) 0 _ rfl) 1 _ rfl) 2 _ rfl) 3 _ rfl) _) Try.underlying77 rfl (by kernel_rfl)) rfl ?_
    refine ⟨⟨(⟨true, xc, 0⟩ : Event), .slice Av xc.legs.length dv, ?_, fun h => ?_, Kd.R_mono (ok := fun q => w.heap.size + 2 ≤ q) (by repeat (first | (with_reducible exact HO1.out) | ((with_reducible refine Kd.R_far ?_ ?ffa _); (case ffa => intro q hq; simp at hq ⊢; omega)) | (with_reducible refine Kd.R_alloc ?_ _) | (with_reducible refine Kd.R_drew ?_))) (fun _ _ => trivial)⟩, (by repeat (first | (with_reducible exact HB1.out) | (with_reducible refine below_alloc ?_ _) | (with_reducible refine below_drew1 ?_) | ((with_reducible refine below_set ?_ ?fle); (case fle => omega))))⟩
    · rw [HE.out.1]; rfl
    · rw [HE.out.2, HX.out (by rw [← HE.out.1]; exact h)]
  by_cases h2 : nthu8_ l 0 ≠ 2
  · have HNO : Aside0 (evOk l = false) := ⟨by simp only [evOk, h1, if_false]; simp [h2]⟩
    go_enter Try.func59, Try.ntmps59
    go_wp2
    refine bodyPost_ret (results_ct rfl _ _ w.heap.size 77 #[.bool false, .int .i64 0, .slice none 0 0, .int .i64 0] (0, 0) _ rfl (blk_alloc (blk_new _ _) _) Try.underlying77 rfl (by kernel_rfl)) rfl ?_
    refine ⟨⟨⟨false, ⟨0, []⟩, 0⟩, .slice none 0 0, ?_, fun h => ?_, Kd.R_nil _ _ _ _ _⟩, by (repeat (first | (with_reducible exact HB.out) | (with_reducible refine below_alloc ?_ _) | (with_reducible refine below_drew1 ?_) | (with_reducible refine pw_below_drewN ?_ _)))⟩
    · rw [HNO.out]; rfl
    · rw [HNO.out] at h; cases h
  replace h2 : nthu8_ l 0 = 2 := by omega
  by_cases h10 : l.length ≠ 10
  · have HNO : Aside0 (evOk l = false) := ⟨by simp only [evOk, h1, if_false]; simp [h10]⟩
    go_enter Try.func59, Try.ntmps59
    go_wp2
    refine bodyPost_ret (results_ct rfl _ _ w.heap.size 77 #[.bool false, .int .i64 0, .slice none 0 0, .int .i64 0] (0, 0) _ rfl (blk_alloc (blk_new _ _) _) Try.underlying77 rfl (by kernel_rfl)) rfl ?_
    refine ⟨⟨⟨false, ⟨0, []⟩, 0⟩, .slice none 0 0, ?_, fun h => ?_, Kd.R_nil _ _ _ _ _⟩, by (repeat (first | (with_reducible exact HB.out) | (with_reducible refine below_alloc ?_ _) | (with_reducible refine below_drew1 ?_) | (with_reducible refine pw_below_drewN ?_ _)))⟩
    · rw [HNO.out]; rfl
    · rw [HNO.out] at h; cases h
  replace h10 : l.length = 10 := by omega
  obtain ⟨Ac, hcut, hcC, hcl⟩ := cutMid (some ad) c l 1 9 1 9 rfl rfl (by omega) (by omega) hlc
  have HCD := Aside0.mk (hcC _ HC.out); clear hcC
  have hml : (mid l 1 9).length = 8 := by rw [mid_len _ _ _ (by omega)]
  have HML := Aside0.mk hml; clear hml
  have HE : Aside0 (evOk l = decide (eventFault (⟨false, ⟨signed (number (mid l 1 9)), []⟩, nthu8_ l 9⟩ : Event) = 0) ∧ evOf l = (⟨false, ⟨signed (number (mid l 1 9)), []⟩, nthu8_ l 9⟩ : Event)) := ⟨by simp [evOk, evOf, h0, h1, h2, h10], by simp [evOf, h1]⟩
  obtain ⟨_, e9, x9⟩ := nthu8 HC.out 9 (by omega)
  cases e9
  have X9 : Aside0 (∀ w2, Below w.heap.size w w2 → w2.cell? ⟨ad.block, ad.off + 9, none⟩ = some (.int .u8 (nthu8_ l 9))) := ⟨fun w2 hb => cell_add (by omega) (x9 w2 hb)⟩
  have hx9 := X9.out _ (below_alloc (below_alloc (Below.refl w.heap.size w) (Obj.cells #[Value.bool false, Value.int IntKind.i64 0, Value.slice none 0 0, Value.int IntKind.i64 0] 77)) (Obj.cells #[Value.bool false, Value.int IntKind.i64 (signed (number (mid l 1 9))), Value.slice none 0 0, Value.int IntKind.i64 0] 77))
  clear x9
  have b9 := (HY.out 9).1; have b9' := (HY.out 9).2
  have u9 : IntKind.i64.wrap (nthu8_ l 9) = nthu8_ l 9 := wrap_fits (by omega) (by omega)
  have t10 : ((l.length : Int) != 10) = false := by simp; omega
  have l9 : 9 < l.length := by omega
  have l9i : (9 : Int) < (l.length : Int) := by omega
  clear h10
  go_enter Try.func59, Try.ntmps59
  go_wp2_with (first | (go_at_call 105; go_must (refine (spec_l3Number _ _ (mid l 1 9) _ ?hc ?hl (HY.out.mid _ _)).mono ?_; (case hc => repeat (first | (with_reducible exact HCD.out) | (with_reducible refine Kd.C_alloc ?_ _))); (case hl => exact HML.out); rintro e w' ⟨rfl, rfl⟩)))
  have BR := Aside0.mk (blk_alloc (blk_new w (Obj.cells #[Value.bool false, Value.int IntKind.i64 0, Value.slice none 0 0, Value.int IntKind.i64 0] 77)) (Obj.cells #[Value.bool false, Value.int IntKind.i64 (signed (number (mid l 1 9))), Value.slice none 0 0, Value.int IntKind.i64 (nthu8_ l 9)] 77))
  have BC := Aside0.mk (blk_new1 w (Obj.cells #[Value.bool false, Value.int IntKind.i64 0, Value.slice none 0 0, Value.int IntKind.i64 0] 77) (Obj.cells #[Value.bool false, Value.int IntKind.i64 (signed (number (mid l 1 9))), Value.slice none 0 0, Value.int IntKind.i64 (nthu8_ l 9)] 77))
  have HB5 := Aside0.mk (below_alloc (below_alloc (Below.refl w.heap.size w) (Obj.cells #[Value.bool false, Value.int IntKind.i64 0, Value.slice none 0 0, Value.int IntKind.i64 0] 77)) (Obj.cells #[Value.bool false, Value.int IntKind.i64 (signed (number (mid l 1 9))), Value.slice none 0 0, Value.int IntKind.i64 (nthu8_ l 9)] 77))
  have hz5 : ((w.alloc (Obj.cells #[Value.bool false, Value.int IntKind.i64 0, Value.slice none 0 0, Value.int IntKind.i64 0] 77)).alloc (Obj.cells #[Value.bool false, Value.int IntKind.i64 (signed (number (mid l 1 9))), Value.slice none 0 0, Value.int IntKind.i64 (nthu8_ l 9)] 77)).heap.size = w.heap.size + 2 := by simp
  generalize (w.alloc (Obj.cells #[Value.bool false, Value.int IntKind.i64 0, Value.slice none 0 0, Value.int IntKind.i64 0] 77)).alloc (Obj.cells #[Value.bool false, Value.int IntKind.i64 (signed (number (mid l 1 9))), Value.slice none 0 0, Value.int IntKind.i64 (nthu8_ l 9)] 77) = W5 at BR BC HB5 hz5 ⊢
  go_region_held3 (fun w' => w'.cell? ⟨w.heap.size + 1, 0, none⟩ = some (.bool false) ∧ w'.cell? ⟨w.heap.size + 1, 1, none⟩ = some (.int .i64 (signed (number (mid l 1 9)))) ∧ w'.cell? ⟨w.heap.size + 1, 2, none⟩ = some (.slice none 0 0) ∧ w'.cell? ⟨w.heap.size + 1, 3, none⟩ = some (.int .i64 (nthu8_ l 9))) (first | exact ⟨(blk_cell (blk_drew BC.out) 0).trans rfl, (blk_cell (blk_drew BC.out) 1).trans rfl, (blk_cell (blk_drew BC.out) 2).trans rfl, (blk_cell (blk_drew BC.out) 3).trans rfl⟩ | exact ⟨(blk_cell BC1.out 0).trans rfl, (blk_cell BC1.out 1).trans rfl, (blk_cell BC1.out 2).trans rfl, (blk_cell BC1.out 3).trans rfl⟩ | exact ⟨(blk_cell (g := w.heap.size + 1) (t := 77) (cs := #[.bool false, .int .i64 (signed (number (mid l 1 9))), .slice none 0 0, .int .i64 (nthu8_ l 9)]) (by repeat (first | (with_reducible exact BC1.out) | ((with_reducible refine blk_far ?_ ?fne _); (case fne => simp)))) 0).trans rfl, (blk_cell (g := w.heap.size + 1) (t := 77) (cs := #[.bool false, .int .i64 (signed (number (mid l 1 9))), .slice none 0 0, .int .i64 (nthu8_ l 9)]) (by repeat (first | (with_reducible exact BC1.out) | ((with_reducible refine blk_far ?_ ?fne _); (case fne => simp)))) 1).trans rfl, (blk_cell (g := w.heap.size + 1) (t := 77) (cs := #[.bool false, .int .i64 (signed (number (mid l 1 9))), .slice none 0 0, .int .i64 (nthu8_ l 9)]) (by repeat (first | (with_reducible exact BC1.out) | ((with_reducible refine blk_far ?_ ?fne _); (case fne => simp)))) 2).trans rfl, (blk_cell (g := w.heap.size + 1) (t := 77) (cs := #[.bool false, .int .i64 (signed (number (mid l 1 9))), .slice none 0 0, .int .i64 (nthu8_ l 9)]) (by repeat (first | (with_reducible exact BC1.out) | ((with_reducible refine blk_far ?_ ?fne _); (case fne => simp)))) 3).trans rfl⟩) (first | (go_at_call 106; go_must (refine (spec_EventFault (⟨false, ⟨signed (number (mid l 1 9)), []⟩, nthu8_ l 9⟩ : Event) _ _ (kEvent_mk (⟨false, ⟨signed (number (mid l 1 9)), []⟩, nthu8_ l 9⟩ : Event) (Nat.zero_le 0) (Kd.C_nil _ _)) (Nat.zero_le _)).mono ?_; rintro e W1 ⟨rfl, hbw⟩; have BR1 := Aside0.mk (blk_below (blk_drew BR.out) hbw); have BC1 := Aside0.mk (blk_below (blk_drew BC.out) hbw); have HB1 := Aside0.mk (below_step (below_drew1 HB5.out) hbw); have hr0 := (blk_cell BR1.out 0).trans rfl; have hr1 := (blk_cell BR1.out 1).trans rfl; have hr2 := (blk_cell BR1.out 2).trans rfl; have hr3 := (blk_cell BR1.out 3).trans rfl; have hg0 := blk_frozen BR1.out 0; have hg1 := blk_frozen BR1.out 1; have hg2 := blk_frozen BR1.out 2; have hg3 := blk_frozen BR1.out 3; clear hbw)))
  go_wp2
  refine bodyPost_ret (results_ct rfl _ _ w.heap.size 77 #[.bool false, .int .i64 (signed (number (mid l 1 9))), .slice none 0 0, .int .i64 (nthu8_ l 9)] (0, 0) _ rfl (blk_put (cs := #[.bool false, .int .i64 (signed (number (mid l 1 9))), .slice none 0 0, .int .i64 0]) (cs' := #[.bool false, .int .i64 (signed (number (mid l 1 9))), .slice none 0 0, .int .i64 (nthu8_ l 9)]) (blk_put (cs := #[.bool false, .int .i64 (signed (number (mid l 1 9))), .slice none 0 0, .int .i64 0]) (cs' := #[.bool false, .int .i64 (signed (number (mid l 1 9))), .slice none 0 0, .int .i64 0]) (blk_put (cs := #[.bool false, .int .i64 0, .slice none 0 0, .int .i64 0]) (cs' := #[.bool false, .int .i64 (signed (number (mid l 1 9))), .slice none 0 0, .int .i64 0]) (blk_put (cs := #[.bool false, .int .i64 0, .slice none 0 0, .int .i64 0]) (cs' := #[.bool false, .int .i64 0, .slice none 0 0, .int .i64 0]) BR1.out 0 _ rfl) 1 _ rfl) 2 _ rfl) 3 _ rfl) Try.underlying77 rfl (by kernel_rfl)) rfl ?_
  refine ⟨⟨(⟨false, ⟨signed (number (mid l 1 9)), []⟩, nthu8_ l 9⟩ : Event), .slice none 0 0, ?_, fun _ => HE.out.2.symm, Kd.R_nil _ _ _ _ _⟩, (by repeat (first | (with_reducible exact HB1.out) | (with_reducible refine below_alloc ?_ _) | (with_reducible refine below_drew1 ?_) | ((with_reducible refine below_set ?_ ?fle); (case fle => simp))))⟩
  rw [HE.out.1]; rfl

end Go.Proofs.Ytjlhdhbnaagajaa.J
