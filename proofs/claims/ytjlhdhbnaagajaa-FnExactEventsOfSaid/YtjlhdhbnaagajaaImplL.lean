/- EventsOf of the reference and of the program. -/
import Derived.Test.YtjlhdhbnaagajaaImplK
import Derived.Test.YtjlhdhbnaagajaaImplH
import Derived.Test.YtjlhdhbnaagajaaSpecH
namespace Go.Proofs.Ytjlhdhbnaagajaa.J
open Go.RowKit Go.Proofs.YtjlhdhbnaagajaaW.PrintWords Go.Proofs.YtjlhdhbnaagajaaW.PrintLast Go.Proofs.YtjlhdhbnaagajaaW.PrintMore
set_option linter.unusedVariables false
set_option linter.unusedSimpArgs false

set_option maxRecDepth 100000 in
set_option maxHeartbeats 1600000 in
theorem spec_EventsOf (x : Journal) (L : List Int) (hL : x.log.synced ++ x.log.loose = L) (cx : List Value) (w : World) (hx : kJournal.K w x cx) (h0 : x.log.synced.length ≤ 1099511627776) (h1 : x.log.loose.length ≤ 1099511627776) (hb : Bytes L) : Calls Try.prog 6 #[.agg cx.toArray] w fun e w' => (∃ v, e = .returned (.agg #[.int .i64 (eventsOf L).1, v]) ∧ Kd.S kEvent 77 w' w.heap.size (fun _ => True) v (eventsOf L).2) ∧ Below w.heap.size w w' := by
  obtain ⟨A1, c1, A2, c2, A3, c3, rfl, q1, g1, q2, g2, q3, g3⟩ := kJournal_open hx
  have hll : x.log.synced.length + x.log.loose.length = L.length := by rw [← hL, List.length_append]
  have G2 := Aside0.mk g2; have G3 := Aside0.mk g3; have HL := Aside0.mk hL; have HY := Aside0.mk hb; clear hx hL hb g1 g2 g3
  have hu := Try.underlying34
  have hj := Try.underlying36
  have hv := Try.underlying31
  have HB := Aside0.mk (Below.refl w.heap.size w)
  by_cases h6 : L.length > 6000
  · have HE : Aside0 (eventsOf L = (2, [])) := ⟨by rw [eventsOf, if_pos h6]⟩
    have H6 : Aside0 (x.log.synced.length + x.log.loose.length > 6000) := ⟨by omega⟩
    clear h6 hll
    go_enter Try.func6, Try.ntmps6
    go_wp2_with (first | (go_at_call 25; go_must (refine (spec_LogFault x.log _ _ (kLog_mk x.log q2 (Kd.C_below G2.out (by (repeat (first | (with_reducible exact HB.out) | (with_reducible refine below_alloc ?_ _) | (with_reducible refine below_drew1 ?_) | (with_reducible refine pw_below_drewN ?_ _))))) q3 (Kd.C_below G3.out (by (repeat (first | (with_reducible exact HB.out) | (with_reducible refine below_alloc ?_ _) | (with_reducible refine below_drew1 ?_) | (with_reducible refine pw_below_drewN ?_ _)))))) h0 h1).mono ?_; rintro e W1 ⟨rfl, hbw⟩; rw [if_pos H6.out]; have BR1 := Aside0.mk (blk_below (blk_new1 w _ _) hbw); have HB1 : Aside0 (Below w.heap.size w W1) := ⟨below_step (by (repeat (first | (with_reducible exact HB.out) | (with_reducible refine below_alloc ?_ _) | (with_reducible refine below_drew1 ?_) | (with_reducible refine pw_below_drewN ?_ _)))) hbw⟩; have d0 := (blk_cell BR1.out 0).trans rfl; have d1 := (blk_cell BR1.out 1).trans rfl; have f0 := blk_frozen BR1.out 0; have f1 := blk_frozen BR1.out 1; have hz1 : w.heap.size + 1 < W1.heap.size := blk_lt BR1.out; clear hbw)))
    refine bodyPost_ret (results_cell_row rfl _ _ (w.heap.size + 1) 31 #[.int .i64 2, .slice none 0 0] (0, 0) _ rfl (blk_put (cs := #[.int .i64 2, .slice none 0 0]) (cs' := #[.int .i64 2, .slice none 0 0]) (blk_put (cs := #[.int .i64 0, .slice none 0 0]) (cs' := #[.int .i64 2, .slice none 0 0]) BR1.out 0 _ rfl) 1 _ rfl) Try.underlying31 rfl (by kernel_rfl)) rfl ?_
    exact ⟨⟨.slice none 0 0, by rw [HE.out] <;> rfl, by rw [HE.out]; exact Kd.S_nil _ _ _ _ _⟩, below_set (below_set HB1.out (by omega)) (by omega)⟩
  · have H6 : Aside0 (¬ x.log.synced.length + x.log.loose.length > 6000) := ⟨by omega⟩
    have H7 : Aside0 (L.length ≤ 6000) := ⟨by omega⟩
    clear h6 hll
    go_enter Try.func6, Try.ntmps6
    go_wp2_with (first | (go_at_call 25; go_must (refine (spec_LogFault x.log _ _ (kLog_mk x.log q2 (Kd.C_below G2.out (by (repeat (first | (with_reducible exact HB.out) | (with_reducible refine below_alloc ?_ _) | (with_reducible refine below_drew1 ?_) | (with_reducible refine pw_below_drewN ?_ _))))) q3 (Kd.C_below G3.out (by (repeat (first | (with_reducible exact HB.out) | (with_reducible refine below_alloc ?_ _) | (with_reducible refine below_drew1 ?_) | (with_reducible refine pw_below_drewN ?_ _)))))) h0 h1).mono ?_; rintro e W1 ⟨rfl, hbw⟩; rw [if_neg H6.out]; have BR1 := Aside0.mk (blk_below (blk_new1 w _ _) hbw); have BL1 := Aside0.mk (blk_below (blk_alloc (blk_new w _) _) hbw); have HB1 : Aside0 (Below w.heap.size w W1) := ⟨below_step (by (repeat (first | (with_reducible exact HB.out) | (with_reducible refine below_alloc ?_ _) | (with_reducible refine below_drew1 ?_) | (with_reducible refine pw_below_drewN ?_ _)))) hbw⟩; have e2 := (blk_cell BL1.out 2).trans rfl; have e3 := (blk_cell BL1.out 3).trans rfl; clear hbw)) | (go_at_call 26; go_must (refine (spec_l14Events x.log L HL.out _ _ (kLog_mk x.log q2 (Kd.C_below G2.out HB1.out) q3 (Kd.C_below G3.out HB1.out)) H7.out HY.out).mono ?_; rintro e W2 ⟨⟨v, rfl, ho⟩, hbw⟩; obtain ⟨Av, cv, ev⟩ := Kd.S_slice ho; subst ev; have HO2 : Aside0 (Kd.S kEvent 77 W2 w.heap.size (fun q => w.heap.size + 2 ≤ q) (.slice Av (eventsOf L).2.length cv) (eventsOf L).2) := ⟨Kd.S_lower (Kd.S_mono (Kd.S_bound ho) (fun q h => by have := h.2.1; have := blk_lt BR1.out; omega)) HB1.out.size⟩; have BR2 := Aside0.mk (blk_below BR1.out hbw); have HB2 : Aside0 (Below w.heap.size w W2) := ⟨below_step HB1.out hbw⟩; have d0 := (blk_cell BR2.out 0).trans rfl; have d1 := (blk_cell BR2.out 1).trans rfl; have f0 := blk_frozen BR2.out 0; have f1 := blk_frozen BR2.out 1; have hz2 : w.heap.size + 1 < W2.heap.size := blk_lt BR2.out; clear hbw ho)))
    refine bodyPost_ret (results_cell_row rfl _ _ (w.heap.size + 1) 31 #[.int .i64 (eventsOf L).1, .slice Av (eventsOf L).2.length cv] (0, 0) _ rfl (blk_put (cs := #[.int .i64 (eventsOf L).1, .slice none 0 0]) (cs' := #[.int .i64 (eventsOf L).1, .slice Av (eventsOf L).2.length cv]) (blk_put (cs := #[.int .i64 0, .slice none 0 0]) (cs' := #[.int .i64 (eventsOf L).1, .slice none 0 0]) BR2.out 0 _ rfl) 1 _ rfl) Try.underlying31 rfl (by kernel_rfl)) rfl ?_
    exact ⟨⟨_, rfl, Kd.S_mono (Kd.S_far (Kd.S_far HO2.out (fun q hq => by show q ≠ w.heap.size + 1; omega) _) (fun q hq => by show q ≠ w.heap.size + 1; omega) _) (fun _ _ => trivial)⟩, below_set (below_set HB2.out (by omega)) (by omega)⟩
set_option maxRecDepth 100000 in
set_option maxHeartbeats 3200000 in
theorem impl_EventsOf (x : Journal) (L : List Int) (hL : x.log.synced ++ x.log.loose = L) (cx : List Value) (w : World) (hx : kJournal.K w x cx) (h0 : x.log.synced.length ≤ 1099511627776) (h1 : x.log.loose.length ≤ 1099511627776) (hb : Bytes L) : Calls Try.prog 8 #[.agg cx.toArray] w fun e w' => (∃ v, e = .returned (.agg #[.int .i64 (eventsOf L).1, v]) ∧ Kd.S kEvent 77 w' w.heap.size (fun _ => True) v (eventsOf L).2) ∧ Below w.heap.size w w' := by
  obtain ⟨A1, c1, A2, c2, A3, c3, rfl, q1, g1, q2, g2, q3, g3⟩ := kJournal_open hx
  have hll : x.log.synced.length + x.log.loose.length = L.length := by rw [← hL, List.length_append]
  have G2 := Aside0.mk g2; have G3 := Aside0.mk g3; have HL := Aside0.mk hL; have HY := Aside0.mk hb; clear hx hL hb g1 g2 g3
  have hu := Try.underlying34
  have hj := Try.underlying36
  have hv := Try.underlying31
  have hrr := Try.underlying71
  have hev := Try.underlying77
  have hcu := Try.underlying75
  have HB := Aside0.mk (Below.refl w.heap.size w)
  by_cases h6 : L.length > 6000
  · have HE : Aside0 (eventsOf L = (2, [])) := ⟨by rw [eventsOf, if_pos h6]⟩
    have H6 : Aside0 (x.log.synced.length + x.log.loose.length > 6000) := ⟨by omega⟩
    clear h6 hll
    go_enter Try.func8, Try.ntmps8
    go_wp2_with (first | (go_at_call 29; go_must (refine (impl_ReadLog_no x.log _ _ (kLog_mk x.log q2 (Kd.C_below G2.out (by (repeat (first | (with_reducible exact HB.out) | (with_reducible refine below_alloc ?_ _) | (with_reducible refine below_drew1 ?_) | (with_reducible refine pw_below_drewN ?_ _))))) q3 (Kd.C_below G3.out (by (repeat (first | (with_reducible exact HB.out) | (with_reducible refine below_alloc ?_ _) | (with_reducible refine below_drew1 ?_) | (with_reducible refine pw_below_drewN ?_ _)))))) h0 h1 H6.out).mono ?_; rintro e W1 ⟨rfl, hbw⟩; have BR1 := Aside0.mk (blk_below (blk_new1 w _ _) hbw); have HB1 : Aside0 (Below w.heap.size w W1) := ⟨below_step (by (repeat (first | (with_reducible exact HB.out) | (with_reducible refine below_alloc ?_ _) | (with_reducible refine below_drew1 ?_) | (with_reducible refine pw_below_drewN ?_ _)))) hbw⟩; have d0 := (blk_cell BR1.out 0).trans rfl; have d1 := (blk_cell BR1.out 1).trans rfl; have f0 := blk_frozen BR1.out 0; have f1 := blk_frozen BR1.out 1; have hz1 : w.heap.size + 1 < W1.heap.size := blk_lt BR1.out; clear hbw)))
    refine bodyPost_ret (results_cell_row rfl _ _ (w.heap.size + 1) 31 #[.int .i64 2, .slice none 0 0] (0, 0) _ rfl (by first | exact blk_alloc (blk_put (cs := #[.int .i64 2, .slice none 0 0]) (cs' := #[.int .i64 2, .slice none 0 0]) (blk_put (cs := #[.int .i64 0, .slice none 0 0]) (cs' := #[.int .i64 2, .slice none 0 0]) BR1.out 0 _ rfl) 1 _ rfl) _ | exact blk_put (cs := #[.int .i64 2, .slice none 0 0]) (cs' := #[.int .i64 2, .slice none 0 0]) (blk_put (cs := #[.int .i64 0, .slice none 0 0]) (cs' := #[.int .i64 2, .slice none 0 0]) (blk_alloc BR1.out _) 0 _ rfl) 1 _ rfl) Try.underlying31 rfl (by kernel_rfl)) rfl ?_
    exact ⟨⟨.slice none 0 0, by rw [HE.out] <;> rfl, by rw [HE.out]; exact Kd.S_nil _ _ _ _ _⟩, (by repeat (first | (with_reducible exact HB1.out) | (with_reducible refine below_alloc ?_ _) | (with_reducible refine below_drew1 ?_) | ((with_reducible refine below_set ?_ ?fle); (case fle => omega))))⟩
  · have h7 : L.length ≤ 6000 := by omega
    clear h6
    go_enter Try.func8, Try.ntmps8
    go_wp2_with (first | (go_at_call 29; go_must (refine (impl_ReadLog x.log L HL.out _ _ (kLog_mk x.log q2 (Kd.C_below G2.out (by (repeat (first | (with_reducible exact HB.out) | (with_reducible refine below_alloc ?_ _) | (with_reducible refine below_drew1 ?_) | (with_reducible refine pw_below_drewN ?_ _))))) q3 (Kd.C_below G3.out (by (repeat (first | (with_reducible exact HB.out) | (with_reducible refine below_alloc ?_ _) | (with_reducible refine below_drew1 ?_) | (with_reducible refine pw_below_drewN ?_ _)))))) h7 HY.out).mono ?_; rintro e W1 ⟨⟨vr, rfl, hor⟩, hbw⟩; obtain ⟨B, d, er, hd, hR⟩ := Kd.S_reads hor; subst er; have HR := Aside0.mk hR; have BR1 := Aside0.mk (blk_below (blk_new1 w _ _) hbw); have BL1 := Aside0.mk (blk_below (blk_alloc (blk_new w _) _) hbw); have HB1 : Aside0 (Below w.heap.size w W1) := ⟨below_step (by (repeat (first | (with_reducible exact HB.out) | (with_reducible refine below_alloc ?_ _) | (with_reducible refine below_drew1 ?_) | (with_reducible refine pw_below_drewN ?_ _)))) hbw⟩; have hz1 : w.heap.size + 1 < W1.heap.size := blk_lt BR1.out; clear hbw hor hR)))
    have BT2 := Aside0.mk (blk_new1 W1 (Obj.cells #[.int .i64 0, .int .i64 (recs L).2, .slice B (recs L).1.length d] 71) (Obj.cells #[.int .i64 0, .slice none 0 0] 31))
    have BU2 := Aside0.mk (blk_alloc (blk_new W1 (Obj.cells #[.int .i64 0, .int .i64 (recs L).2, .slice B (recs L).1.length d] 71)) (Obj.cells #[.int .i64 0, .slice none 0 0] 31))
    have HA2 := Aside0.mk (below_alloc (below_alloc (Below.refl W1.heap.size W1) (Obj.cells #[.int .i64 0, .int .i64 (recs L).2, .slice B (recs L).1.length d] 71)) (Obj.cells #[.int .i64 0, .slice none 0 0] 31))
    have hz2 : ((W1.alloc (Obj.cells #[.int .i64 0, .int .i64 (recs L).2, .slice B (recs L).1.length d] 71)).alloc (Obj.cells #[.int .i64 0, .slice none 0 0] 31)).heap.size = W1.heap.size + 2 := by simp
    generalize (W1.alloc (Obj.cells #[.int .i64 0, .int .i64 (recs L).2, .slice B (recs L).1.length d] 71)).alloc (Obj.cells #[.int .i64 0, .slice none 0 0] 31) = W2 at BT2 BU2 HA2 hz2 ⊢
    have HZ2 := Aside0.mk hz2; clear hz2
    go_loopg [22] (recs L).1.length (fun n v22 w' => ∃ (i : Nat), v22 = .int .i64 i ∧ Aside0 (∃ v, n + i = (recs L).1.length ∧ (∀ j, j < i → evOk (nthR_ (recs L).1 j) = true) ∧ Kd.S kEvent 77 w' w.heap.size (fun q => W1.heap.size + 2 ≤ q) v (((recs L).1.take i).map evOf) ∧ w'.heap[W1.heap.size + 1]? = some (.cells #[.int .i64 0, v] 31 (0, 0)) ∧ Below (W1.heap.size + 1) W2 w'))
    case atStart => exact ⟨0, rfl, ⟨.slice none 0 0, by omega, fun j h => by omega, Kd.S_nil _ _ _ _ _, BT2.out, Below.refl _ _⟩⟩
    case round =>
      clear BT2
      obtain ⟨i, rfl, ⟨v, HN, HP, HO, BT, HBB⟩⟩ := hrel
      obtain ⟨Av, cv, ev⟩ := Kd.S_slice HO
      subst ev
      have HBW : Aside0 (Below W1.heap.size W1 wr) := ⟨HA2.out.trans (HBB.mono (by omega))⟩
      have HBw : Aside0 (Below w.heap.size w wr) := ⟨below_step HB1.out HBW.out⟩
      have BRr := Aside0.mk (blk_below BR1.out HBW.out)
      have BLr := Aside0.mk (blk_below BL1.out HBW.out)
      have BUr : Aside0 (wr.heap[W1.heap.size]? = some (.cells #[.int .i64 0, .int .i64 (recs L).2, .slice B (recs L).1.length d] 71 (0, 0))) := ⟨(HBB.block _ (by omega)).trans BU2.out⟩
      replace HN := Aside0.mk HN; replace HP := Aside0.mk HP; replace HO := Aside0.mk HO; replace BT := Aside0.mk BT; replace HBB := Aside0.mk HBB
      have hzr : W1.heap.size + 1 < wr.heap.size := blk_lt BT.out
      by_cases hi : i < (recs L).1.length
      · obtain ⟨ad, B2, c4, e2, x2, q4, g4⟩ := nthRow HR.out i hi
        subst e2
        have hx2 := x2 _ HBW.out
        have G4 := Aside0.mk g4; clear g4 x2
        have hyr := recs_bytes L HY.out L.length 0 _ (nthR_mem _ i hi)
        have HYR := Aside0.mk hyr; clear hyr
        by_cases ho : evOk (nthR_ (recs L).1 i) = false
        · have HE := Aside0.mk (evs_bad L h7 i hi ho); have HO5 := Aside0.mk ho; clear ho
          go_wp2_with (first | (go_at_call 30; go_must (refine (impl_unpackEvent _ _ (nthR_ (recs L).1 i) _ (G4.out _ HBW.out) q4 HYR.out).mono ?_; rintro e W4 ⟨⟨xe, v, rfl, hxe, hoe⟩, hbw⟩; obtain ⟨Ae, de, ee⟩ := Kd.R_slice hoe; subst ee; have HB4 := Aside0.mk (below_step HBw.out hbw); have BR4 := Aside0.mk (blk_below BRr.out hbw); have d0 := (blk_cell BR4.out 0).trans rfl; have d1 := (blk_cell BR4.out 1).trans rfl; have f0 := blk_frozen BR4.out 0; have f1 := blk_frozen BR4.out 1; have hz4 : w.heap.size + 1 < W4.heap.size := blk_lt BR4.out; rw [show evOk (nthR_ (recs L).1 i) = false from HO5.out]; clear hbw hoe hxe)))
          refine bodyPost_ret (results_cell_row rfl _ _ (w.heap.size + 1) 31 #[.int .i64 5, .slice none 0 0] (0, 0) _ rfl (by first | exact blk_alloc (blk_put (cs := #[.int .i64 5, .slice none 0 0]) (cs' := #[.int .i64 5, .slice none 0 0]) (blk_put (cs := #[.int .i64 0, .slice none 0 0]) (cs' := #[.int .i64 5, .slice none 0 0]) BR4.out 0 _ rfl) 1 _ rfl) _ | exact blk_put (cs := #[.int .i64 5, .slice none 0 0]) (cs' := #[.int .i64 5, .slice none 0 0]) (blk_put (cs := #[.int .i64 0, .slice none 0 0]) (cs' := #[.int .i64 5, .slice none 0 0]) (blk_alloc BR4.out _) 0 _ rfl) 1 _ rfl) Try.underlying31 rfl (by kernel_rfl)) rfl ?_
          exact ⟨⟨.slice none 0 0, by rw [HE.out] <;> rfl, by rw [HE.out]; exact Kd.S_nil _ _ _ _ _⟩, (by repeat (first | (with_reducible exact HB4.out) | (with_reducible refine below_alloc ?_ _) | (with_reducible refine below_drew1 ?_) | ((with_reducible refine below_set ?_ ?fle); (case fle => omega))))⟩
        · replace ho : evOk (nthR_ (recs L).1 i) = true := by simpa using ho
          have HO5 := Aside0.mk ho; clear ho
          obtain ⟨n, rfl⟩ : ∃ n, gk = n + 1 := ⟨gk - 1, by have := HN.out; omega⟩
          have hi60 : 5 * (recs L).1.length ≤ 6000 := by have := recsFrom_used L L.length 0 (by omega); have h2 : (recsFrom L L.length 0) = recs L := rfl; rw [h2] at this; omega
          obtain ⟨Y, hY⟩ : ∃ Y, ((recs L).1.take i).map evOf = Y := ⟨_, rfl⟩
          have hlt : Y.length = i := by rw [← hY]; simp; omega
          obtain ⟨Y1, hY1⟩ : ∃ Y1, ((recs L).1.take (i + 1)).map evOf = Y1 := ⟨_, rfl⟩
          have HS1 : Aside0 (Y1 = Y ++ [evOf (nthR_ (recs L).1 i)]) := ⟨by rw [← hY1, take_succ_row _ _ hi, List.map_append, hY]; rfl⟩
          have HY1 := Aside0.mk hY1
          have HLT := Aside0.mk hlt
          rw [hY] at HO BT
          clear hlt hY hY1
          go_wp2_with (first | (go_at_call 30; go_must (refine (impl_unpackEvent _ _ (nthR_ (recs L).1 i) _ (G4.out _ HBW.out) q4 HYR.out).mono ?_; rintro e W4 ⟨⟨xe, v, rfl, hxe, hoe⟩, hbw⟩; obtain ⟨Ae, de, ee⟩ := Kd.R_slice hoe; subst ee; have HX := Aside0.mk (hxe HO5.out); have HB4 := Aside0.mk (below_step HBw.out hbw); have HBB4 := Aside0.mk (HBB.out.trans (hbw.mono (by omega))); have HO4 := Aside0.mk (Kd.S_old HO.out hbw); have HE4 := Aside0.mk (Kd.R_bound hoe); have BT4 := Aside0.mk (blk_below BT.out hbw); have hz4 : wr.heap.size ≤ W4.heap.size := hbw.size; have hz5 : W1.heap.size + 1 < W4.heap.size := blk_lt BT4.out; have t0 := (blk_cell BT4.out 0).trans rfl; have t1 := (blk_cell BT4.out 1).trans rfl; rw [show evOk (nthR_ (recs L).1 i) = true from HO5.out]; clear hbw hoe hxe)) | ((with_reducible refine gate_builtin (b := .append) (xs := #[.tmp 35, .tmp 37]) rfl ?_); at_builtin; go_must (refine Kd.S_append kEvent (w0 := w) w.heap.size rfl (.tmp 35) (.tmp 37) 29 77 (.agg #[.bool false, .int .i64 0, .slice none 0 0, .int .i64 0]) 48 rfl Try.underlying29 infoEvent rfl (by decide) (by omega) _ Y xe [.bool xe.vote, .int .i64 xe.contract.id, .slice Ae xe.contract.legs.length de, .int .i64 xe.outcome] (fun q => W1.heap.size + 2 ≤ q) (fun q => wr.heap.size ≤ q ∧ q < W4.heap.size) rfl (by rw [World.size_alloc]; rfl) ?aP ?aK ?aF ?aO ?aB ?aS ?aL ?_; (case aP => exact kEvent_mkM xe (Kd.R_alloc (Kd.R_lower (Kd.R_mono HE4.out (fun q hq => ⟨hq.2.1, hq.2.2.1⟩)) HBw.out.size) _)); (case aK => exact fun q hq => ⟨by omega, fun he => by have := (Kd.S_R HO4.out).1 q he.symm; omega⟩); (case aF => intro q hq; simp at hq; omega); (case aO => exact Kd.S_alloc (Kd.S_mono HO4.out (fun q hq => ⟨hq.1, fun h => by omega⟩)) _); (case aB => exact below_alloc HB4.out _); (case aS => exact (below_alloc HB4.out _).size); (case aL => rw [HLT.out]; omega); intro v5 W5 ho hb hg hat; rw [HX.out, ← HS1.out] at ho; have BT5 := Aside0.mk (blk_grown (blk_alloc BT4.out _) hg (fun he => by have := (Kd.S_R HO4.out).1 _ he.symm; omega)); have HBB5 := Aside0.mk (pw_below_grown (HBB4.out.alloc (by omega) _) _ (by simp; omega) hg (fun k hk => by have := (Kd.S_R HO4.out).1 _ hk; omega)); have HO5b := Aside0.mk ho; obtain ⟨A5, c5, e5⟩ := Kd.S_slice ho; subst e5; have t2 := (blk_cell BT5.out 1).trans rfl; have t3 := blk_frozen BT5.out 1; have hz6 : W1.heap.size + 1 < W5.heap.size := blk_lt BT5.out; clear ho hb hg hat)))
          go_roundg n
          case measure => have := HN.out; omega
          case rel => exact ⟨i + 1, by go_num, ⟨.slice A5 Y1.length c5, by have := HN.out; omega, fun j hj => by rcases Nat.lt_succ_iff_lt_or_eq.1 hj with hj | rfl; exact HP.out j hj; exact HO5.out, by rw [HY1.out]; exact Kd.S_far HO5b.out (fun q hq => by show q ≠ W1.heap.size + 1; omega) _, blk_put BT5.out 1 _ rfl, HBB5.out.setCell (Nat.le_refl _) _⟩⟩
      · obtain rfl : i = (recs L).1.length := by have := HN.out; omega
        have hgood := evs_good L h7 HP.out
        have hused : (recs L).2 ≤ L.length := (recsFrom_used L L.length 0 (by omega)).1
        have htk : (((recs L).1.take (recs L).1.length).map evOf) = (recs L).1.map evOf := by rw [List.take_of_length_le (Nat.le_refl _)]
        have hml : ((recs L).1.map evOf).length = (recs L).1.length := by simp
        rw [htk] at HO BT
        rw [hml] at HO BT
        obtain ⟨Y, hY⟩ : ∃ Y, (recs L).1.map evOf = Y := ⟨_, rfl⟩
        rw [hY] at HO hgood
        obtain ⟨M, hM⟩ : ∃ M, (recs L).1.length = M := ⟨_, rfl⟩
        obtain ⟨U, hU⟩ : ∃ U, (recs L).2 = U := ⟨_, rfl⟩
        rw [hM] at HO BT BUr hgood
        rw [hU] at BUr hgood hused
        rw [hM, hU]
        have e2 := (blk_cell BLr.out 2).trans rfl
        have e3 := (blk_cell BLr.out 3).trans rfl
        have e1 := (blk_cell BUr.out 1).trans rfl
        have d0 := (blk_cell BRr.out 0).trans rfl
        have d1 := (blk_cell BRr.out 1).trans rfl
        have f0 := blk_frozen BRr.out 0
        have f1 := blk_frozen BRr.out 1
        have t0 := (blk_cell BT.out 0).trans rfl
        have t1 := (blk_cell BT.out 1).trans rfl
        have w1 : IntKind.i64.wrap ((x.log.synced.length : Int) + (x.log.loose.length : Int)) = (x.log.synced.length : Int) + (x.log.loose.length : Int) := wrap_fits (by omega) (by omega)
        have hz0 : w.heap.size + 1 < wr.heap.size := by omega
        clear hY hM hU htk hml HP HBB HBW BR1 BL1 BU2 HR
        by_cases hu1 : U < L.length
        · have HE : Aside0 (eventsOf L = (5, [])) := ⟨by rw [hgood, if_pos hu1]⟩
          have tu : ((U : Int) != (x.log.synced.length : Int) + (x.log.loose.length : Int)) = true := by rw [bne_iff_ne]; omega
          clear hu1 hgood hll hused
          go_wp2
          go_region_held3 (fun w' => w'.cell? ⟨W1.heap.size, 1, none⟩ = some (.int .i64 U) ∧ w'.cell? ⟨w.heap.size, 2, none⟩ = some (.slice A2 x.log.synced.length c2) ∧ w'.cell? ⟨w.heap.size, 3, none⟩ = some (.slice A3 x.log.loose.length c3)) (first | exact ⟨e1, e2, e3⟩) (first | (go_at_call 31; refine (impl_size_u8 _ _ _ _).mono ?_; rintro e w' ⟨rfl, rfl⟩))
          go_wp2
          refine bodyPost_ret (results_cell_row rfl _ _ (w.heap.size + 1) 31 #[.int .i64 5, .slice none 0 0] (0, 0) _ rfl (by repeat (first | (with_reducible refine blk_drew ?_) | exact (blk_put (cs := #[.int .i64 5, .slice none 0 0]) (cs' := #[.int .i64 5, .slice none 0 0]) (blk_put (cs := #[.int .i64 0, .slice none 0 0]) (cs' := #[.int .i64 5, .slice none 0 0]) BRr.out 0 _ rfl) 1 _ rfl) | exact (blk_put (cs := #[.int .i64 5, .slice none 0 0]) (cs' := #[.int .i64 5, .slice none 0 0]) (blk_put (cs := #[.int .i64 0, .slice none 0 0]) (cs' := #[.int .i64 5, .slice none 0 0]) (blk_drew BRr.out) 0 _ rfl) 1 _ rfl))) Try.underlying31 rfl (by kernel_rfl)) rfl ?_
          exact ⟨⟨.slice none 0 0, by rw [HE.out] <;> rfl, by rw [HE.out]; exact Kd.S_nil _ _ _ _ _⟩, (by repeat (first | (with_reducible exact HBw.out) | (with_reducible refine below_alloc ?_ _) | (with_reducible refine below_drew1 ?_) | ((with_reducible refine below_set ?_ ?fle); (case fle => omega))))⟩
        · have tu : ((U : Int) != (x.log.synced.length : Int) + (x.log.loose.length : Int)) = false := by rw [bne_eq_false_iff_eq]; omega
          by_cases h60 : M > 60
          · have HE : Aside0 (eventsOf L = (2, [])) := ⟨by rw [hgood, if_neg hu1, if_pos h60]⟩
            have t60 : (60 : Int) < (M : Int) := by omega
            clear hu1 hgood h60 hll hused
            go_wp2
            go_region_held3 (fun w' => w'.cell? ⟨W1.heap.size, 1, none⟩ = some (.int .i64 U) ∧ w'.cell? ⟨w.heap.size, 2, none⟩ = some (.slice A2 x.log.synced.length c2) ∧ w'.cell? ⟨w.heap.size, 3, none⟩ = some (.slice A3 x.log.loose.length c3)) (first | exact ⟨e1, e2, e3⟩) (first | (go_at_call 31; refine (impl_size_u8 _ _ _ _).mono ?_; rintro e w' ⟨rfl, rfl⟩))
            go_wp2
            refine bodyPost_ret (results_cell_row rfl _ _ (w.heap.size + 1) 31 #[.int .i64 2, .slice none 0 0] (0, 0) _ rfl (by repeat (first | (with_reducible refine blk_drew ?_) | exact (blk_put (cs := #[.int .i64 2, .slice none 0 0]) (cs' := #[.int .i64 2, .slice none 0 0]) (blk_put (cs := #[.int .i64 0, .slice none 0 0]) (cs' := #[.int .i64 2, .slice none 0 0]) BRr.out 0 _ rfl) 1 _ rfl) | exact (blk_put (cs := #[.int .i64 2, .slice none 0 0]) (cs' := #[.int .i64 2, .slice none 0 0]) (blk_put (cs := #[.int .i64 0, .slice none 0 0]) (cs' := #[.int .i64 2, .slice none 0 0]) (blk_drew BRr.out) 0 _ rfl) 1 _ rfl))) Try.underlying31 rfl (by kernel_rfl)) rfl ?_
            exact ⟨⟨.slice none 0 0, by rw [HE.out] <;> rfl, by rw [HE.out]; exact Kd.S_nil _ _ _ _ _⟩, (by repeat (first | (with_reducible exact HBw.out) | (with_reducible refine below_alloc ?_ _) | (with_reducible refine below_drew1 ?_) | ((with_reducible refine below_set ?_ ?fle); (case fle => omega))))⟩
          · have HE : Aside0 (eventsOf L = (0, Y)) := ⟨by rw [hgood, if_neg hu1, if_neg h60]⟩
            have t60 : ¬ (60 : Int) < (M : Int) := by omega
            clear hu1 hgood h60 hll hused
            go_wp2
            go_region_held3 (fun w' => w'.cell? ⟨W1.heap.size, 1, none⟩ = some (.int .i64 U) ∧ w'.cell? ⟨w.heap.size, 2, none⟩ = some (.slice A2 x.log.synced.length c2) ∧ w'.cell? ⟨w.heap.size, 3, none⟩ = some (.slice A3 x.log.loose.length c3)) (first | exact ⟨e1, e2, e3⟩) (first | (go_at_call 31; refine (impl_size_u8 _ _ _ _).mono ?_; rintro e w' ⟨rfl, rfl⟩))
            go_wp2
            refine bodyPost_ret (results_cell_row rfl _ _ (w.heap.size + 1) 31 #[.int .i64 0, .slice Av M cv] (0, 0) _ rfl (by repeat (first | (with_reducible refine blk_drew ?_) | exact (blk_put (cs := #[.int .i64 0, .slice none 0 0]) (cs' := #[.int .i64 0, .slice Av M cv]) (blk_put (cs := #[.int .i64 0, .slice none 0 0]) (cs' := #[.int .i64 0, .slice none 0 0]) BRr.out 0 _ rfl) 1 _ rfl) | exact (blk_put (cs := #[.int .i64 0, .slice none 0 0]) (cs' := #[.int .i64 0, .slice Av M cv]) (blk_put (cs := #[.int .i64 0, .slice none 0 0]) (cs' := #[.int .i64 0, .slice none 0 0]) (blk_drew BRr.out) 0 _ rfl) 1 _ rfl))) Try.underlying31 rfl (by kernel_rfl)) rfl ?_
            exact ⟨⟨.slice Av M cv, by rw [HE.out] <;> rfl, by rw [HE.out]; exact Kd.S_mono (ok := fun q => W1.heap.size + 2 ≤ q) (by repeat (first | (with_reducible exact HO.out) | ((with_reducible refine Kd.S_far ?_ ?ffa _); (case ffa => intro q hq; simp at hq ⊢; omega)) | (with_reducible refine Kd.S_alloc ?_ _) | (with_reducible refine Kd.S_drew ?_))) (fun _ _ => trivial)⟩, (by repeat (first | (with_reducible exact HBw.out) | (with_reducible refine below_alloc ?_ _) | (with_reducible refine below_drew1 ?_) | ((with_reducible refine below_set ?_ ?fle); (case fle => omega))))⟩

end Go.Proofs.Ytjlhdhbnaagajaa.J
