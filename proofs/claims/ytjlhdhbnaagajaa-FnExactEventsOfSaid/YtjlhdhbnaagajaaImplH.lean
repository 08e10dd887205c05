/- The program's ReadLog. -/
import Derived.Test.YtjlhdhbnaagajaaImplG
namespace Go.Proofs.Ytjlhdhbnaagajaa.J
open Go.RowKit Go.Proofs.YtjlhdhbnaagajaaW.PrintWords Go.Proofs.YtjlhdhbnaagajaaW.PrintLast Go.Proofs.YtjlhdhbnaagajaaW.PrintMore
set_option linter.unusedVariables false
set_option linter.unusedSimpArgs false

set_option maxRecDepth 100000 in
set_option maxHeartbeats 1600000 in
theorem impl_ReadLog_no (x : Log) (cx : List Value) (w : World) (hx : kLog.K w x cx) (h0 : x.synced.length ≤ 1099511627776) (h1 : x.loose.length ≤ 1099511627776) (h6 : x.synced.length + x.loose.length > 6000) : Calls Try.prog 29 #[.agg cx.toArray] w fun e w' => e = .returned (.agg #[.int .i64 2, .int .i64 0, .slice none 0 0]) ∧ Below w.heap.size w w' := by
  obtain ⟨A0, c0, A1, c1, rfl, q0, g0, q1, g1⟩ := kLog_open hx
  have G0 := Aside0.mk g0; have G1 := Aside0.mk g1; clear hx g0 g1
  have hu := Try.underlying34
  have hv := Try.underlying71
  have H6 := Aside0.mk h6
  have HB := Aside0.mk (Below.refl w.heap.size w)
  clear h6
  go_enter Try.func29, Try.ntmps29
  go_wp2_with (first | (go_at_call 62; go_must (refine (impl_LogFault x _ _ (kLog_mk x q0 (Kd.C_below G0.out (by (repeat (first | (with_reducible exact HB.out) | (with_reducible refine below_alloc ?_ _) | (with_reducible refine below_drew1 ?_) | (with_reducible refine pw_below_drewN ?_ _))))) q1 (Kd.C_below G1.out (by (repeat (first | (with_reducible exact HB.out) | (with_reducible refine below_alloc ?_ _) | (with_reducible refine below_drew1 ?_) | (with_reducible refine pw_below_drewN ?_ _)))))) h0 h1).mono ?_; rintro e W1 ⟨rfl, hbw⟩; rw [if_pos H6.out]; have BR1 := Aside0.mk (blk_below (blk_new1 w _ _) hbw); have HB1 : Aside0 (Below w.heap.size w W1) := ⟨below_step (by (repeat (first | (with_reducible exact HB.out) | (with_reducible refine below_alloc ?_ _) | (with_reducible refine below_drew1 ?_) | (with_reducible refine pw_below_drewN ?_ _)))) hbw⟩; have d0 := (blk_cell BR1.out 0).trans rfl; have d1 := (blk_cell BR1.out 1).trans rfl; have d2 := (blk_cell BR1.out 2).trans rfl; have f0 := blk_frozen BR1.out 0; have f1 := blk_frozen BR1.out 1; have f2 := blk_frozen BR1.out 2; have hz1 : w.heap.size + 1 < W1.heap.size := blk_lt BR1.out; clear hbw)))
  refine bodyPost_ret (results_cell_row rfl _ _ (w.heap.size + 1) 71 #[.int .i64 2, .int .i64 0, .slice none 0 0] (0, 0) _ rfl (blk_put (cs := #[.int .i64 2, .int .i64 0, .slice none 0 0]) (cs' := #[.int .i64 2, .int .i64 0, .slice none 0 0]) (blk_put (cs := #[.int .i64 2, .int .i64 0, .slice none 0 0]) (cs' := #[.int .i64 2, .int .i64 0, .slice none 0 0]) (blk_put (cs := #[.int .i64 0, .int .i64 0, .slice none 0 0]) (cs' := #[.int .i64 2, .int .i64 0, .slice none 0 0]) BR1.out 0 _ rfl) 1 _ rfl) 2 _ rfl) Try.underlying71 rfl (by kernel_rfl)) rfl ?_
  exact ⟨rfl, below_set (below_set (below_set HB1.out (by omega)) (by omega)) (by omega)⟩
set_option maxRecDepth 100000 in
set_option maxHeartbeats 1600000 in
theorem impl_ReadLog (x : Log) (L : List Int) (hL : x.synced ++ x.loose = L) (cx : List Value) (w : World) (hx : kLog.K w x cx) (h6 : L.length ≤ 6000) (hb : Bytes L) : Calls Try.prog 29 #[.agg cx.toArray] w fun e w' => (∃ v, e = .returned (.agg #[.int .i64 0, .int .i64 (recs L).2, v]) ∧ Kd.S kRow 23 w' w.heap.size (fun _ => True) v (recs L).1) ∧ Below w.heap.size w w' := by
  obtain ⟨A0, c0, A1, c1, rfl, q0, g0, q1, g1⟩ := kLog_open hx
  have hll : x.synced.length + x.loose.length = L.length := by rw [← hL, List.length_append]
  have G0 := Aside0.mk g0; have G1 := Aside0.mk g1; have HY := Aside0.mk hb; have HL := Aside0.mk hL; clear hx g0 g1 hb hL
  have hu := Try.underlying34
  have hv := Try.underlying71
  have H6 : Aside0 (¬ x.synced.length + x.loose.length > 6000 ∧ x.synced.length + x.loose.length ≤ 6000 ∧ x.synced.length ≤ 1099511627776 ∧ x.loose.length ≤ 1099511627776) := ⟨by omega⟩
  have H7 := Aside0.mk h6
  have HB := Aside0.mk (Below.refl w.heap.size w)
  clear hll h6
  go_enter Try.func29, Try.ntmps29
  go_wp2_with (first | (go_at_call 62; go_must (refine (impl_LogFault x _ _ (kLog_mk x q0 (Kd.C_below G0.out (by (repeat (first | (with_reducible exact HB.out) | (with_reducible refine below_alloc ?_ _) | (with_reducible refine below_drew1 ?_) | (with_reducible refine pw_below_drewN ?_ _))))) q1 (Kd.C_below G1.out (by (repeat (first | (with_reducible exact HB.out) | (with_reducible refine below_alloc ?_ _) | (with_reducible refine below_drew1 ?_) | (with_reducible refine pw_below_drewN ?_ _)))))) H6.out.2.2.1 H6.out.2.2.2).mono ?_; rintro e W1 ⟨rfl, hbw⟩; rw [if_neg H6.out.1]; have BR1 := Aside0.mk (blk_below (blk_new1 w _ _) hbw); have BL1 := Aside0.mk (blk_below (blk_alloc (blk_new w _) _) hbw); have HB1 : Aside0 (Below w.heap.size w W1) := ⟨below_step (by (repeat (first | (with_reducible exact HB.out) | (with_reducible refine below_alloc ?_ _) | (with_reducible refine below_drew1 ?_) | (with_reducible refine pw_below_drewN ?_ _)))) hbw⟩; have e0 := (blk_cell BL1.out 0).trans rfl; have e1 := (blk_cell BL1.out 1).trans rfl; have hz1 : w.heap.size + 1 < W1.heap.size := blk_lt BR1.out; clear hbw)) | (go_at_call 64; go_must (refine (slices_Concat2 _ _ _ x.synced _ _ x.loose _ _ ((blk_cell (blk_new W1 _) 0).trans rfl) ((blk_cell (blk_new W1 _) 1).trans rfl) (Kd.C_below G0.out (below_alloc HB1.out _)) (Kd.C_below G1.out (below_alloc HB1.out _)) H6.out.2.1).mono ?_; rintro e W2 ⟨⟨v, rfl, ho⟩, hbw⟩; rw [HL.out] at ho; obtain ⟨Av, dv, ev, hdv, hCv⟩ := Kd.R_reads ho; subst ev; have HCV := Aside0.mk hCv; have BR2 := Aside0.mk (blk_below (blk_alloc BR1.out _) hbw); have HB2 : Aside0 (Below w.heap.size w W2) := ⟨below_step (below_alloc HB1.out _) hbw⟩; have hz2 : w.heap.size + 1 < W2.heap.size := blk_lt BR2.out; clear hbw ho hCv)) | (go_at_call 63; go_must (refine (impl_UnframeAll _ _ L _ HCV.out hdv H7.out HY.out).mono ?_; rintro e W3 ⟨⟨v3, rfl, ho⟩, hbw⟩; obtain ⟨A3, d3, e3⟩ := Kd.S_slice ho; subst e3; have HO3 : Aside0 (Kd.S kRow 23 W3 w.heap.size (fun q => w.heap.size + 2 ≤ q) (.slice A3 (recs L).1.length d3) (recs L).1) := ⟨Kd.S_lower (Kd.S_mono (Kd.S_bound ho) (fun q h => by have := h.2.1; omega)) HB2.out.size⟩; have BR3 := Aside0.mk (blk_below BR2.out hbw); have HB3 : Aside0 (Below w.heap.size w W3) := ⟨below_step HB2.out hbw⟩; have d0 := (blk_cell BR3.out 0).trans rfl; have d1 := (blk_cell BR3.out 1).trans rfl; have d2 := (blk_cell BR3.out 2).trans rfl; have f0 := blk_frozen BR3.out 0; have f1 := blk_frozen BR3.out 1; have f2 := blk_frozen BR3.out 2; have hz3 : w.heap.size + 1 < W3.heap.size := blk_lt BR3.out; clear hbw ho)))
  refine bodyPost_ret (results_cell_row rfl _ _ (w.heap.size + 1) 71 #[.int .i64 0, .int .i64 (recs L).2, .slice A3 (recs L).1.length d3] (0, 0) _ rfl (blk_put (cs := #[.int .i64 0, .int .i64 (recs L).2, .slice none 0 0]) (cs' := #[.int .i64 0, .int .i64 (recs L).2, .slice A3 (recs L).1.length d3]) (blk_put (cs := #[.int .i64 0, .int .i64 0, .slice none 0 0]) (cs' := #[.int .i64 0, .int .i64 (recs L).2, .slice none 0 0]) (blk_put (cs := #[.int .i64 0, .int .i64 0, .slice none 0 0]) (cs' := #[.int .i64 0, .int .i64 0, .slice none 0 0]) BR3.out 0 _ rfl) 1 _ rfl) 2 _ rfl) Try.underlying71 rfl (by kernel_rfl)) rfl ?_
  exact ⟨⟨_, rfl, Kd.S_mono (Kd.S_far (Kd.S_far (Kd.S_far HO3.out (fun q hq => by show q ≠ w.heap.size + 1; omega) _) (fun q hq => by show q ≠ w.heap.size + 1; omega) _) (fun q hq => by show q ≠ w.heap.size + 1; omega) _) (fun _ _ => trivial)⟩, below_set (below_set (below_set HB3.out (by omega)) (by omega)) (by omega)⟩

end Go.Proofs.Ytjlhdhbnaagajaa.J
