/- The law FnExactEventsOf, walked. -/
import Derived.Test.YtjlhdhbnaagajaaLawA
namespace Go.Proofs.Ytjlhdhbnaagajaa.J
open Go.RowKit Go.Proofs.YtjlhdhbnaagajaaW.PrintWords Go.Proofs.YtjlhdhbnaagajaaW.PrintLast Go.Proofs.YtjlhdhbnaagajaaW.PrintMore
set_option linter.unusedVariables false
set_option linter.unusedSimpArgs false

set_option maxRecDepth 100000 in
set_option maxHeartbeats 6400000 in
theorem law_EventsOf (x : Journal) (cx : List Value) (w : World) (hx : kJournal.K w x cx) (hy0 : Bytes x.log.synced) (hy1 : Bytes x.log.loose) : Calls Try.prog 3 #[.agg cx.toArray] w fun e w' => e = .returned (.bool true) ∧ Below w.heap.size w w' := by
  obtain ⟨A1, c1, A2, c2, A3, c3, rfl, q1, g1, q2, g2, q3, g3⟩ := kJournal_open hx
  have HX : Aside0 (∀ W, Below w.heap.size w W → kJournal.K W x [.int .i64 x.index, .slice A1 x.start.length c1, .slice A2 x.log.synced.length c2, .slice A3 x.log.loose.length c3]) := ⟨fun W hb => kJournal.K_below hb hx⟩
  have hm1 := Kd.C_max g1; have hm2 := Kd.C_max g2; have hm3 := Kd.C_max g3
  have hlj := Try.underlying27
  have hij := Try.underlying36
  have her := Try.underlying31
  have hll := Try.underlying25
  have hil := Try.underlying34
  clear g1 g2 g3 hx
  by_cases htot : x.start.length + x.log.synced.length + x.log.loose.length ≤ 1048576
  case neg =>
    have HS : Aside0 (szr 1048576 (x.start.length + x.log.synced.length + x.log.loose.length) = -1) := ⟨szr_no (by omega)⟩
    clear htot hy0 hy1
    go_enter Try.func3, Try.ntmps3
    go_wp2_with (first | (go_at_call 5; go_must (refine (szJournal x _ 1048576 _ (HX.out _ (below_alloc (Below.refl w.heap.size w) _)) hm1 hm2 hm3 (by omega) (by omega)).mono ?_; rintro e W1 ⟨rfl, hbw⟩; rw [HS.out]; have HB1 : Aside0 (Below w.heap.size w W1) := ⟨below_step (below_alloc (Below.refl w.heap.size w) _) hbw⟩; clear hbw)))
    go_ret
    exact ⟨rfl, HB1.out⟩
  have h0 : x.start.length ≤ 1099511627776 := by omega
  have h1 : x.log.synced.length ≤ 1099511627776 := by omega
  have h2 : x.log.loose.length ≤ 1099511627776 := by omega
  obtain ⟨Z, hZ, hz⟩ : ∃ Z : Int, szr 1048576 (x.start.length + x.log.synced.length + x.log.loose.length) = Z ∧ 0 ≤ Z := ⟨_, rfl, by rw [szr_ok (by omega)]; omega⟩
  have HS := Aside0.mk hZ
  obtain ⟨L, hL⟩ : ∃ L, x.log.synced ++ x.log.loose = L := ⟨_, rfl⟩
  have HL := Aside0.mk hL
  have HY : Aside0 (Bytes L) := ⟨by rw [← hL]; exact bytes_append hy0 hy1⟩
  obtain ⟨cd, hcd⟩ : ∃ cd, (eventsOf L).1 = cd := ⟨_, rfl⟩
  obtain ⟨ls, hls⟩ : ∃ ls, (eventsOf L).2 = ls := ⟨_, rfl⟩
  have hlen := events_len L
  rw [hls] at hlen
  have HFIT := Aside0.mk (events_fits cd ls hlen.1 hlen.2)
  have HCN : Aside0 (cntEventS ls ≤ 2100 ∧ ls.length ≤ 60) := ⟨by have := cntEventS_le ls hlen.2; have := hlen.1; omega, hlen.1⟩
  have HCB : Aside0 (cntBalanceS x.start ≤ 3145728 ∧ cntByteS x.log.synced ≤ 1048576 ∧ cntByteS x.log.loose ≤ 1048576) := ⟨by simp only [cntBalanceS, cntByteS]; omega⟩
  have HCD := Aside0.mk hcd; have HLS := Aside0.mk hls
  have HJF : Aside0 x.fits := ⟨h0, h1, h2⟩
  clear hZ hL hcd hls hlen hy0 hy1 htot
  go_enter Try.func3, Try.ntmps3
  go_wp2_with (fail)
  refine (szJournal x _ 1048576 _ (HX.out _ (below_alloc (Below.refl w.heap.size w) _)) hm1 hm2 hm3 (by omega) (by omega)).mono ?_
  rintro e W1 ⟨rfl, hbw⟩
  rw [HS.out]
  have HB1 : Aside0 (Below w.heap.size w W1) := ⟨below_step (below_alloc (Below.refl w.heap.size w) _) hbw⟩
  have J1 := Aside0.mk (blk_below (blk_new w _) hbw)
  have j0 := (blk_cell J1.out 0).trans rfl; have j1 := (blk_cell J1.out 1).trans rfl; have j2 := (blk_cell J1.out 2).trans rfl; have j3 := (blk_cell J1.out 3).trans rfl
  clear hbw
  go_wp2_with (fail)
  refine (toJournal x _ _ (HX.out _ HB1.out) h0 h1 h2).mono ?_
  rintro e W2 ⟨v0, v1, v2, m0, m1, rfl, ho0, ho1, ho2, hbw⟩
  obtain ⟨B0, d0, rfl, l0, k0⟩ := Kd.R_reads ho0
  obtain ⟨B1, d1, rfl, l1, k1⟩ := Kd.R_reads ho1
  obtain ⟨B2, d2, rfl, l2, k2⟩ := Kd.R_reads ho2
  have KX2 := Aside0.mk (kJournal_mk x l0 k0 l1 k1 l2 k2)
  have J2 := Aside0.mk (blk_below J1.out hbw)
  have HB2 : Aside0 (Below w.heap.size w W2) := ⟨below_step HB1.out hbw⟩
  clear ho0 ho1 ho2 hbw k0 k1 k2 j0 j1 j2 j3
  go_wp2_with (fail)
  refine (spec_EventsOf x L HL.out _ _ KX2.out h1 h2 HY.out).mono ?_
  rintro e W3 ⟨⟨v4, rfl, ho⟩, hbw⟩
  rw [HCD.out]
  rw [HLS.out] at ho
  obtain ⟨A4, c4, rfl⟩ := Kd.S_slice ho
  have HS4 : Aside0 (Kd.S kEvent 77 W3 w.heap.size (fun q => w.heap.size < q ∧ q < W3.heap.size) (.slice A4 ls.length c4) ls) := ⟨Kd.S_lower (Kd.S_mono (Kd.S_bound ho) (fun q h => ⟨Nat.lt_of_lt_of_le (blk_lt J2.out) h.2.1, h.2.2.1⟩)) HB2.out.size⟩
  have J3 := Aside0.mk (blk_below J2.out hbw)
  have HB3 : Aside0 (Below w.heap.size w W3) := ⟨below_step HB2.out hbw⟩
  have j0 := (blk_cell J3.out 0).trans rfl; have j1 := (blk_cell J3.out 1).trans rfl; have j2 := (blk_cell J3.out 2).trans rfl; have j3 := (blk_cell J3.out 3).trans rfl
  have hz3 : w.heap.size < W3.heap.size := blk_lt J3.out
  clear ho hbw KX2 J1 J2 HB1 HB2 l0 l1 l2
  go_wp2_with (fail)
  refine (toJournal x _ _ (HX.out _ (below_alloc HB3.out _)) h0 h1 h2).mono ?_
  rintro e W5 ⟨v0, v1, v2, m0, m1, rfl, ho0, ho1, ho2, hbw⟩
  obtain ⟨B0, d0, rfl, l0, k0⟩ := Kd.R_reads ho0
  obtain ⟨B1, d1, rfl, l1, k1⟩ := Kd.R_reads ho1
  obtain ⟨B2, d2, rfl, l2, k2⟩ := Kd.R_reads ho2
  have KX5 := Aside0.mk (kJournal_mk x l0 k0 l1 k1 l2 k2)
  have J5 := Aside0.mk (blk_below (blk_alloc J3.out _) hbw)
  have E5 := Aside0.mk (blk_below (blk_new W3 _) hbw)
  have HS5 := Aside0.mk (Kd.S_below (Kd.S_alloc HS4.out _) hbw)
  have HB5 : Aside0 (Below w.heap.size w W5) := ⟨below_step (below_alloc HB3.out _) hbw⟩
  have hz5 : W3.heap.size < W5.heap.size := blk_lt E5.out
  have R0 : Aside0 (Kd.R kBalance 110 W5 w.heap.size (fun q => (W3.heap.size < q ∧ q < W5.heap.size) ∧ q < m0) (.slice B0 x.start.length d0) x.start) := ⟨Kd.R_lower (Kd.R_mono (Kd.R_bound ho0) (fun q h => ⟨⟨by have := h.2.1; simp at this; omega, h.2.2.1⟩, h.1⟩)) (below_alloc HB3.out _).size⟩
  have R1 : Aside0 (Kd.R (Kd.int .u8) 5 W5 w.heap.size (fun q => (W3.heap.size < q ∧ q < W5.heap.size) ∧ m0 ≤ q ∧ q < m1) (.slice B1 x.log.synced.length d1) x.log.synced) := ⟨Kd.R_lower (Kd.R_mono (Kd.R_bound ho1) (fun q h => ⟨⟨by have := h.2.1; simp at this; omega, h.2.2.1⟩, h.1⟩)) (below_alloc HB3.out _).size⟩
  have R2 : Aside0 (Kd.R (Kd.int .u8) 5 W5 w.heap.size (fun q => (W3.heap.size < q ∧ q < W5.heap.size) ∧ m0 ≤ q ∧ m1 ≤ q) (.slice B2 x.log.loose.length d2) x.log.loose) := ⟨Kd.R_lower (Kd.R_mono (Kd.R_bound ho2) (fun q h => ⟨⟨by have := h.2.1; simp at this; omega, h.2.2.1⟩, h.1⟩)) (below_alloc HB3.out _).size⟩
  clear ho0 ho1 ho2 hbw k0 k1 k2 j0 j1 j2 j3 J3 HB3 HS4
  go_wp2_with (fail)
  refine (impl_EventsOf x L HL.out _ _ (kJournal.K_below (below_alloc (Below.refl W5.heap.size W5) _) KX5.out) h1 h2 HY.out).mono ?_
  rintro e W7 ⟨⟨v6, rfl, ho⟩, hbw⟩
  rw [HCD.out]
  rw [HLS.out] at ho
  obtain ⟨A6, c6, rfl⟩ := Kd.S_slice ho
  have hbw5 := below_step (below_alloc (Below.refl W5.heap.size W5) _) hbw
  have HS6 : Aside0 (Kd.S kEvent 77 W7 w.heap.size (fun q => W5.heap.size < q ∧ q < W7.heap.size) (.slice A6 ls.length c6) ls) := ⟨Kd.S_lower (Kd.S_mono (Kd.S_bound ho) (fun q h => ⟨by have := h.2.1; simp at this; omega, h.2.2.1⟩)) (below_alloc HB5.out _).size⟩
  have J7 := blk_below J5.out hbw5
  have E7 := blk_below E5.out hbw5
  have X7 := Aside0.mk (blk_alloc (blk_below (blk_new W5 _) hbw) (.cells #[.int .i64 cd, .slice A6 ls.length c6] 31))
  have hz7 : W5.heap.size < W7.heap.size := blk_lt (blk_below (blk_new W5 _) hbw)
  have HE8 : Aside0 (Eb w #[.int .i64 x.index, .slice A1 x.start.length c1, .slice A2 x.log.synced.length c2, .slice A3 x.log.loose.length c3] W3.heap.size W5.heap.size W7.heap.size (.slice A4 ls.length c4) (.slice A6 ls.length c6) cd ls ls (W7.alloc (.cells #[.int .i64 cd, .slice A6 ls.length c6] 31))) := ⟨⟨below_alloc (below_step HB5.out hbw5) _, blk_alloc J7 _, blk_alloc E7 _, Kd.S_alloc (Kd.S_below HS5.out hbw5) _, blk_new W7 _, Kd.S_alloc HS6.out _, hz3, hz5, hz7⟩⟩
  have KX8 := Aside0.mk (kJournal.K_below (below_alloc (Below.refl W7.heap.size W7) (.cells #[.int .i64 cd, .slice A6 ls.length c6] 31)) (kJournal.K_below hbw5 KX5.out))
  have R0a := Aside0.mk (Kd.R_alloc (Kd.R_below R0.out hbw5) (.cells #[.int .i64 cd, .slice A6 ls.length c6] 31))
  have R1a := Aside0.mk (Kd.R_alloc (Kd.R_below R1.out hbw5) (.cells #[.int .i64 cd, .slice A6 ls.length c6] 31))
  have R2a := Aside0.mk (Kd.R_alloc (Kd.R_below R2.out hbw5) (.cells #[.int .i64 cd, .slice A6 ls.length c6] 31))
  have a0 := (blk_cell E7 0).trans rfl; have a1 := (blk_cell E7 1).trans rfl
  have hz37 : W3.heap.size < W7.heap.size := blk_lt E7
  clear ho hbw hbw5 J7 HS6 HB5 HS5 J5 E5 KX5 R0 R1 R2
  go_wp2_with (fail)
  refine (eqEventsRes (⟨cd, ls⟩ : EventsRes) (⟨cd, ls⟩ : EventsRes) _ _ _ (kEventsRes_mk (⟨cd, ls⟩ : EventsRes) (Kd.S_reads' HE8.out.s6).2.1 (Kd.S_reads' HE8.out.s6).2.2) (kEventsRes_mk (⟨cd, ls⟩ : EventsRes) (Kd.S_reads' HE8.out.s4).2.1 (Kd.S_reads' HE8.out.s4).2.2) HFIT.out).mono ?_
  rintro e W9 ⟨⟨b, rfl, hb⟩, hbw⟩
  obtain rfl : b = true := hb.2 rfl
  have HE9 := Aside0.mk (HE8.out.below hbw); have X9 := Aside0.mk (blk_below X7.out hbw); have KX9 := Aside0.mk (kJournal.K_below hbw KX8.out)
  have R0b := Aside0.mk (Kd.R_below R0a.out hbw); have R1b := Aside0.mk (Kd.R_below R1a.out hbw); have R2b := Aside0.mk (Kd.R_below R2a.out hbw)
  clear hb hbw a0 a1 E7 HE8 X7 KX8 R0a R1a R2a hz3 hz5 hz7 hz37
  have x0 := (blk_cell X9.out 0).trans rfl; have x1 := (blk_cell X9.out 1).trans rfl; have x2 := (blk_cell X9.out 2).trans rfl; have x3 := (blk_cell X9.out 3).trans rfl
  have j0 := (blk_cell HE9.out.j 0).trans rfl; have j1 := (blk_cell HE9.out.j 1).trans rfl; have j2 := (blk_cell HE9.out.j 2).trans rfl; have j3 := (blk_cell HE9.out.j 3).trans rfl
  go_wp2_with (fail)
  go_region_held3 (fun w' => w'.cell? ⟨W5.heap.size, 0, none⟩ = some (.int .i64 x.index) ∧ w'.cell? ⟨W5.heap.size, 1, none⟩ = some (.slice B0 x.start.length d0) ∧ w'.cell? ⟨W5.heap.size, 2, none⟩ = some (.slice B1 x.log.synced.length d1) ∧ w'.cell? ⟨W5.heap.size, 3, none⟩ = some (.slice B2 x.log.loose.length d2) ∧ w'.cell? ⟨w.heap.size, 0, none⟩ = some (.int .i64 x.index) ∧ w'.cell? ⟨w.heap.size, 1, none⟩ = some (.slice A1 x.start.length c1) ∧ w'.cell? ⟨w.heap.size, 2, none⟩ = some (.slice A2 x.log.synced.length c2) ∧ w'.cell? ⟨w.heap.size, 3, none⟩ = some (.slice A3 x.log.loose.length c3))
    (first | exact ⟨x0, x1, x2, x3, j0, j1, j2, j3⟩ | exact ⟨(blk_cell X10.out 0).trans rfl, (blk_cell X10.out 1).trans rfl, (blk_cell X10.out 2).trans rfl, (blk_cell X10.out 3).trans rfl, (blk_cell HE10.out.j 0).trans rfl, (blk_cell HE10.out.j 1).trans rfl, (blk_cell HE10.out.j 2).trans rfl, (blk_cell HE10.out.j 3).trans rfl⟩ | exact ⟨(blk_cell X11.out 0).trans rfl, (blk_cell X11.out 1).trans rfl, (blk_cell X11.out 2).trans rfl, (blk_cell X11.out 3).trans rfl, (blk_cell HE11.out.j 0).trans rfl, (blk_cell HE11.out.j 1).trans rfl, (blk_cell HE11.out.j 2).trans rfl, (blk_cell HE11.out.j 3).trans rfl⟩)
    (first | (go_at_call 7; go_must (refine (toJournal x _ _ (HX.out _ (below_drew1 HE9.out.bel)) h0 h1 h2).mono ?_; rintro e W10 ⟨v0, v1, v2, m0', m1', rfl, ho0, ho1, ho2, hbw⟩; obtain ⟨B0', d0', rfl, l0', k0'⟩ := Kd.R_reads ho0; obtain ⟨B1', d1', rfl, l1', k1'⟩ := Kd.R_reads ho1; obtain ⟨B2', d2', rfl, l2', k2'⟩ := Kd.R_reads ho2; have KY10 := Aside0.mk (kJournal_mk x l0' k0' l1' k1' l2' k2'); have hb9 := below_step (below_drew1 (Below.refl W9.heap.size W9)) hbw; have HE10 := Aside0.mk (HE9.out.below hb9); have X10 := Aside0.mk (blk_below X9.out hb9); have KX10 := Aside0.mk (kJournal.K_below hb9 KX9.out); have R0c := Aside0.mk (Kd.R_below R0b.out hb9); have R1c := Aside0.mk (Kd.R_below R1b.out hb9); have R2c := Aside0.mk (Kd.R_below R2b.out hb9); clear ho0 ho1 ho2 hbw hb9 k0' k1' k2')) | (go_at_call 10; go_must (refine (eqJournal x x _ _ _ KX10.out KY10.out HJF.out).mono ?_; rintro e W11 ⟨⟨b, rfl, hb⟩, hbw⟩; obtain rfl : b = true := hb.2 rfl; have HE11 := Aside0.mk (HE10.out.below hbw); have X11 := Aside0.mk (blk_below X10.out hbw); have R0d := Aside0.mk (Kd.R_below R0c.out hbw); have R1d := Aside0.mk (Kd.R_below R1c.out hbw); have R2d := Aside0.mk (Kd.R_below R2c.out hbw); clear hb hbw)))
  clear x0 x1 x2 x3 j0 j1 j2 j3 HE9 X9 KX9 KX10 KY10 R0b R1b R2b R0c R1c R2c HE10 X10
  have x0 := (blk_cell X11.out 0).trans rfl; have x1 := (blk_cell X11.out 1).trans rfl; have x2 := (blk_cell X11.out 2).trans rfl; have x3 := (blk_cell X11.out 3).trans rfl
  go_wp2_with (fail)
  refine (markJournal x _ _ _ _ _ _ 1 w _ HE11.out.bel R0d.out R1d.out R2d.out (fun q h h' => by omega) (fun q h h' => by omega) (fun q h h' => by omega) (fun q h h' => by omega) (fun q h h' => by omega) (fun q h h' => by omega) (by omega) (by have := HCB.out; omega)).mono ?_
  rintro e W12 ⟨⟨l0', l1', l2', rfl, -⟩, hbw, hk⟩
  have HE12 := Aside0.mk (HE11.out.kept hbw hk (fun q hq => by rcases hq with h | h | h <;> exact h.1))
  obtain ⟨K, hK⟩ : ∃ K : Int, 1 + (cntBalanceS x.start : Int) + (cntByteS x.log.synced : Int) + (cntByteS x.log.loose : Int) = K := ⟨_, rfl⟩
  have hK0 : 0 ≤ K := by rw [← hK]; omega
  rw [hK]
  clear hK hk hbw x0 x1 x2 x3 X11 R0d R1d R2d HE11
  have e40 := (blk_cell HE12.out.e4 0).trans rfl; have e41 := (blk_cell HE12.out.e4 1).trans rfl; have e60 := (blk_cell HE12.out.e6 0).trans rfl; have e61 := (blk_cell HE12.out.e6 1).trans rfl
  go_wp2_with (fail)
  refine (eqEventsRes (⟨cd, ls⟩ : EventsRes) (⟨cd, ls⟩ : EventsRes) _ _ _ (kEventsRes_mk (⟨cd, ls⟩ : EventsRes) (Kd.S_reads' HE12.out.s6).2.1 (Kd.S_reads' HE12.out.s6).2.2) (kEventsRes_mk (⟨cd, ls⟩ : EventsRes) (Kd.S_reads' HE12.out.s4).2.1 (Kd.S_reads' HE12.out.s4).2.2) HFIT.out).mono ?_
  rintro e W13 ⟨⟨b, rfl, hb⟩, hbw⟩
  obtain rfl : b = true := hb.2 rfl
  have HE13 := Aside0.mk (HE12.out.below hbw)
  clear hb hbw e40 e41 e60 e61 HE12
  have e60 := (blk_cell HE13.out.e6 0).trans rfl; have e61 := (blk_cell HE13.out.e6 1).trans rfl
  obtain ⟨N, hN⟩ : ∃ N : Int, 1 + (cntEventS ls : Int) = N := ⟨_, rfl⟩
  have hN0 : 0 ≤ N := by rw [← hN]; omega
  have HN := Aside0.mk hN; clear hN
  go_wp2_with (fail)
  have hcon := markEventsRes (⟨cd, ls⟩ : EventsRes) _ _ 1 w _ HE13.out.bel HE13.out.s6 (by have := HCN.out; show ls.length ≤ _; omega) (by omega) (by have := HCN.out; show 1 + (cntEventS ls : Int) ≤ _; omega)
  dsimp only at hcon
  rw [HN.out] at hcon
  refine hcon.mono ?_
  clear hcon
  rintro e W14 ⟨⟨l6, rfl, ho, hlen, hcnt, hmk⟩, hbw, hk⟩
  have HE14 := Aside0.mk (HE13.out.marked hbw hk ho)
  have HLN := Aside0.mk hlen; have HCT := Aside0.mk hcnt; have HMK := Aside0.mk hmk
  have KE : Aside0 (∀ W, Below W14.heap.size W14 W → kEventsRes.K W (⟨cd, l6⟩ : EventsRes) [.int .i64 cd, .slice A6 ls.length c6]) := ⟨fun W hb => by
    have h := Kd.S_reads' HE14.out.s6
    rw [← HLN.out] at h ⊢
    exact kEventsRes_mk (⟨cd, l6⟩ : EventsRes) h.2.1 (Kd.C_below h.2.2 hb)⟩
  clear ho hlen hcnt hmk hbw hk e60 e61 HE13
  have e60 := (blk_cell HE14.out.e6 0).trans rfl; have e61 := (blk_cell HE14.out.e6 1).trans rfl
  go_wp2_with (fail)
  have hcon := heldEventsRes (⟨cd, l6⟩ : EventsRes) _ 1 _ (KE.out _ (Below.refl _ _)) (by have := HCN.out; have := HLN.out; show l6.length ≤ _; omega) (by omega) (by have := HCN.out; have := HCT.out; show 1 + (cntEventS l6 : Int) ≤ _; omega) HMK.out
  dsimp only at hcon
  rw [HCT.out, HN.out] at hcon
  refine hcon.mono ?_
  clear hcon
  rintro e W15 ⟨rfl, hbw⟩
  have HE15 := Aside0.mk (HE14.out.below hbw)
  have KF : Aside0 (∀ W, Below W15.heap.size W15 W → kEventsRes.K W (⟨cd, l6⟩ : EventsRes) [.int .i64 cd, .slice A6 ls.length c6]) := ⟨fun W hb => KE.out W (below_step hbw hb)⟩
  clear hbw e60 e61 HE14 KE
  have j0 := (blk_cell HE15.out.j 0).trans rfl; have j1 := (blk_cell HE15.out.j 1).trans rfl; have j2 := (blk_cell HE15.out.j 2).trans rfl; have j3 := (blk_cell HE15.out.j 3).trans rfl
  go_wp2_with (fail)
  refine (toJournal x _ _ (HX.out _ HE15.out.bel) h0 h1 h2).mono ?_
  rintro e W16 ⟨v0, v1, v2, m0', m1', rfl, ho0, ho1, ho2, hbw⟩
  obtain ⟨B0', d0', rfl, l0', k0'⟩ := Kd.R_reads ho0
  obtain ⟨B1', d1', rfl, l1', k1'⟩ := Kd.R_reads ho1
  obtain ⟨B2', d2', rfl, l2', k2'⟩ := Kd.R_reads ho2
  have KX16 := Aside0.mk (kJournal_mk x l0' k0' l1' k1' l2' k2')
  have HE16 := Aside0.mk (HE15.out.below hbw)
  have KG : Aside0 (∀ W, Below W16.heap.size W16 W → kEventsRes.K W (⟨cd, l6⟩ : EventsRes) [.int .i64 cd, .slice A6 ls.length c6]) := ⟨fun W hb => KF.out W (below_step hbw hb)⟩
  clear ho0 ho1 ho2 hbw k0' k1' k2' j0 j1 j2 j3 HE15 KF
  go_wp2_with (fail)
  refine (impl_EventsOf x L HL.out _ _ KX16.out h1 h2 HY.out).mono ?_
  rintro e W17 ⟨⟨v9, rfl, ho⟩, hbw⟩
  rw [HCD.out]
  rw [HLS.out] at ho
  obtain ⟨A9, c9, rfl, hl9, hC9⟩ := Kd.S_reads ho
  have HC9 := Aside0.mk hC9
  have HE17 := Aside0.mk (HE16.out.below hbw)
  have KH : Aside0 (∀ W, Below W17.heap.size W17 W → kEventsRes.K W (⟨cd, l6⟩ : EventsRes) [.int .i64 cd, .slice A6 ls.length c6]) := ⟨fun W hb => KG.out W (below_step hbw hb)⟩
  clear ho hbw hC9 HE16 KX16 KG
  have e40 := (blk_cell HE17.out.e4 0).trans rfl; have e41 := (blk_cell HE17.out.e4 1).trans rfl
  have z4 : W3.heap.size < W17.heap.size := blk_lt HE17.out.e4
  go_wp2_with (fail)
  refine (eqEventsRes (⟨cd, ls⟩ : EventsRes) (⟨cd, ls⟩ : EventsRes) _ _ _ (kEventsRes_mk (⟨cd, ls⟩ : EventsRes) hl9 (Kd.C_alloc HC9.out _)) (kEventsRes_mk (⟨cd, ls⟩ : EventsRes) (Kd.S_reads' HE17.out.s4).2.1 (Kd.C_alloc (Kd.S_reads' HE17.out.s4).2.2 _)) HFIT.out).mono ?_
  rintro e W19 ⟨⟨b, rfl, hb⟩, hbw⟩
  obtain rfl : b = true := hb.2 rfl
  have hb17 := below_step (below_alloc (Below.refl W17.heap.size W17) _) hbw
  have HE19 := Aside0.mk (HE17.out.below hb17)
  have KI : Aside0 (kEventsRes.K W19 (⟨cd, l6⟩ : EventsRes) [.int .i64 cd, .slice A6 ls.length c6]) := ⟨KH.out _ hb17⟩
  clear hb hbw hb17 e40 e41 HE17 KH z4 HC9
  have e60 := (blk_cell HE19.out.e6 0).trans rfl; have e61 := (blk_cell HE19.out.e6 1).trans rfl
  go_wp2_with (fail)
  have hcon := heldEventsRes (⟨cd, l6⟩ : EventsRes) _ 1 _ KI.out (by have := HCN.out; have := HLN.out; show l6.length ≤ _; omega) (by omega) (by have := HCN.out; have := HCT.out; show 1 + (cntEventS l6 : Int) ≤ _; omega) HMK.out
  dsimp only at hcon
  rw [HCT.out, HN.out] at hcon
  refine hcon.mono ?_
  clear hcon
  rintro e W20 ⟨rfl, hbw⟩
  have HE20 := Aside0.mk (HE19.out.below hbw)
  clear hbw e60 e61
  go_wp2_with (fail)
  go_ret
  exact ⟨rfl, HE20.out.bel⟩

end Go.Proofs.Ytjlhdhbnaagajaa.J
