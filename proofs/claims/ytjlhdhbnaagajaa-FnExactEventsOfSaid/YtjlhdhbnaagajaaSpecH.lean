/- The reference's l14Events and EventsOf. -/
import Derived.Test.YtjlhdhbnaagajaaSpecG
namespace Go.Proofs.Ytjlhdhbnaagajaa.J
open Go.RowKit Go.Proofs.YtjlhdhbnaagajaaW.PrintWords Go.Proofs.YtjlhdhbnaagajaaW.PrintLast Go.Proofs.YtjlhdhbnaagajaaW.PrintMore
set_option linter.unusedVariables false
set_option linter.unusedSimpArgs false

def nthR_ (xs : List (List Int)) (k : Nat) : List Int := xs.getD k []
theorem nthRow {w : World} {A : Option Addr} {n : Nat} {xs : List (List Int)} (h : Kd.C kRow w A n xs) (k : Nat) (hk : k < n) : ∃ ad B c, A = some ad ∧ (∀ w2, Below w.heap.size w w2 → w2.cell? (ad.add k) = some (.slice B (nthR_ xs k).length c)) ∧ (nthR_ xs k).length ≤ c ∧ (∀ w2, Below w.heap.size w w2 → Kd.C (Kd.int .u8) w2 B (nthR_ xs k).length (nthR_ xs k)) := by
  unfold nthR_
  obtain ⟨ad, cs, e, hl, hK, hc0⟩ := Kd.C_get h [] (k : Int) (by omega) (by omega)
  rw [Int.toNat_natCast] at hK hc0
  obtain ⟨B, c, rfl, hlc, hC⟩ := hK
  refine ⟨ad, B, c, e, fun w2 hb => ?_, hlc, fun w2 hb => Kd.C_below hC hb⟩
  have := hc0 0 _ rfl
  rw [show k * (kRow).sz + 0 = k from by show k * 1 + 0 = k; omega] at this
  exact (hb.cell (World.block_lt_of_cell? w _ this)).trans this
theorem recs_bytes (l : List Int) (h : Bytes l) : ∀ n i r, r ∈ (recsFrom l n i).1 → Bytes r := by
  intro n
  induction n with
  | zero => intro i r hr; cases hr
  | succ n ih =>
    intro i r hr
    cases ho : recOk l i
    · rw [recsFrom_no l _ i ho] at hr; cases hr
    · rw [recsFrom_yes l n i ho] at hr
      cases hr with
      | head => exact h.mid _ _
      | tail _ hr => exact ih _ r hr
theorem nthR_mem (xs : List (List Int)) (k : Nat) (h : k < xs.length) : nthR_ xs k ∈ xs := by
  unfold nthR_; rw [List.getD_eq_getElem?_getD, List.getElem?_eq_getElem h]; exact List.getElem_mem h
theorem take_succ_row (xs : List (List Int)) (i : Nat) (h : i < xs.length) : xs.take (i + 1) = xs.take i ++ [nthR_ xs i] := by
  rw [List.take_succ_eq_append_getElem h]; simp [nthR_, h]
theorem infoEvent : (Try.prog.info? 77).map (fun i => (i.zero, i.size, i.bytes)) = some (some (.agg #[.bool false, .int .i64 0, .slice none 0 0, .int .i64 0]), 4, 48) := by kernel_rfl
theorem evs_bad (L : List Int) (h6 : L.length ≤ 6000) (k : Nat) (hk : k < (recs L).1.length) (h : evOk (nthR_ (recs L).1 k) = false) : eventsOf L = (5, []) := by
  have ha : (recs L).1.all evOk = false := by rw [List.all_eq_false]; exact ⟨_, nthR_mem _ k hk, by simp [h]⟩
  rw [eventsOf, if_neg (by omega), if_pos ha]
theorem evs_all (L : List Int) (h : ∀ j, j < (recs L).1.length → evOk (nthR_ (recs L).1 j) = true) : (recs L).1.all evOk = true := by
  rw [List.all_eq_true]
  intro r hr
  obtain ⟨j, hj, rfl⟩ := List.getElem_of_mem hr
  have := h j hj
  rwa [nthR_, List.getD_eq_getElem?_getD, List.getElem?_eq_getElem hj] at this
theorem evs_good (L : List Int) (h6 : L.length ≤ 6000) (h : ∀ j, j < (recs L).1.length → evOk (nthR_ (recs L).1 j) = true) : eventsOf L = if (recs L).2 < L.length then (5, []) else if (recs L).1.length > 60 then (2, []) else (0, (recs L).1.map evOf) := by
  rw [eventsOf, if_neg (by omega), if_neg (by rw [evs_all L h]; decide)]
set_option maxRecDepth 100000 in
set_option maxHeartbeats 3200000 in
theorem spec_l14Events (x : Log) (L : List Int) (hL : x.synced ++ x.loose = L) (cx : List Value) (w : World) (hx : kLog.K w x cx) (h6 : L.length ≤ 6000) (hb : Bytes L) : Calls Try.prog 26 #[.agg cx.toArray] w fun e w' => (∃ v, e = .returned (.tuple #[v, .int .i64 (eventsOf L).1]) ∧ Kd.S kEvent 77 w' w.heap.size (fun _ => True) v (eventsOf L).2) ∧ Below w.heap.size w w' := by
  obtain ⟨A0, c0, A1, c1, rfl, q0, g0, q1, g1⟩ := kLog_open hx
  have hll : x.synced.length + x.loose.length = L.length := by rw [← hL, List.length_append]
  have G0 := Aside0.mk g0; have G1 := Aside0.mk g1; have HL := Aside0.mk hL; have HY := Aside0.mk hb; clear hx hL hb g0 g1
  have hu := Try.underlying34
  have hv := Try.underlying77; have hcu := Try.underlying75
  have hfi : ∀ (A : Option Addr) (n c : Nat) (W : World), (Instr.field 34 (Value.agg #[Value.slice A n c, Value.slice none 0 0]) 0).run Try.prog W = .ok (.slice A n c) W := fun A n c W => by kernel_rfl
  have HB := Aside0.mk (Below.refl w.heap.size w)
  go_enter Try.func26, Try.ntmps26
  go_wp2_with (first | (go_at_call 58; go_must (refine (spec_l4Sync x L HL.out _ _ (kLog_mk x q0 (Kd.C_alloc G0.out _) q1 (Kd.C_alloc G1.out _)) (by omega) (by omega)).mono ?_; rintro e W1 ⟨⟨A, c, rfl, hlc, hC⟩, hbw⟩; have BK1 := Aside0.mk (blk_below (blk_new w _) hbw); have HB1 := Aside0.mk (below_step (below_alloc (Below.refl w.heap.size w) _) hbw); clear hbw)) | (go_at_call 57; go_must (refine (spec_l3Records _ _ L _ hC hlc (by omega) HY.out).mono ?_; rintro e W2 ⟨⟨B, d, rfl, hd, hR⟩, hbw⟩; have BK2 := Aside0.mk (blk_below BK1.out hbw); have HB2 := Aside0.mk (below_step HB1.out hbw); have HR := Aside0.mk hR; have hc0 := (blk_cell BK2.out 0).trans rfl; have hc1 := (blk_cell BK2.out 1).trans rfl; clear hbw hR)) | ((with_reducible refine gate_dst (N := 17) rfl ?_); go_must (refine Kd.S_lit kEvent W2.heap.size 77 ?hg (N := 17) ?hd (xs := ([] : List Event)) (inner := []) (ok := fun _ => True) (okp := fun _ => True) ?hr ?hp (fun _ hk => hk) trivial (Below.refl _ _) (Nat.le_refl _) (by simp) ?_; (case hd => rfl); (case hg => rfl); (case hr => first | (go_simp; done) | (go_simp; rfl)); (case hp => exact (Reps.none _ _)); intro v0 W3 ho hb hg_ hnew_; have HO := Aside0.mk ho; have HB3 := Aside0.mk hb; clear ho hb hg_ hnew_)))
  go_loopg [6, 7] (recs L).1.length (fun n v6 v7 w' => ∃ (i : Nat), v7 = .int .i64 i ∧ Aside0 (n + i = (recs L).1.length ∧ (∀ j, j < i → evOk (nthR_ (recs L).1 j) = true) ∧ Kd.S kEvent 77 w' W2.heap.size (fun _ => True) v6 (((recs L).1.take i).map evOf) ∧ Below W2.heap.size W2 w'))
  case atStart => exact ⟨0, rfl, ⟨by omega, fun j h => by omega, HO.out, HB3.out⟩⟩
  case round =>
    clear HO HB3
    obtain ⟨i, rfl, ⟨HN, HP, HO, HB3⟩⟩ := hrel
    replace HN := Aside0.mk HN; replace HP := Aside0.mk HP; replace HO := Aside0.mk HO; replace HB3 := Aside0.mk HB3
    by_cases hi : i < (recs L).1.length
    · obtain ⟨ad, B2, c2, e2, x2, q2, g2⟩ := nthRow HR.out i hi
      subst e2
      have hx2 := x2 _ HB3.out
      have G2 := Aside0.mk g2; clear g2 x2
      have hyr := recs_bytes L HY.out L.length 0 _ (nthR_mem _ i hi)
      have HYR := Aside0.mk hyr; clear hyr
      by_cases ho : evOk (nthR_ (recs L).1 i) = false
      · have HE := Aside0.mk (evs_bad L h6 i hi ho); have HO5 := Aside0.mk ho; clear ho
        go_wp2_with (first | (go_at_call 59; go_must (refine (spec_l14Unpack _ _ (nthR_ (recs L).1 i) _ (G2.out _ HB3.out) q2 HYR.out).mono ?_; rintro e W4 ⟨⟨xe, v, rfl, hxe, hoe⟩, hbw⟩; obtain ⟨Av, dv, ev⟩ := Kd.R_slice hoe; subst ev; have HB4 := Aside0.mk (below_step (HB2.out.trans (HB3.out.mono HB2.out.size)) hbw); rw [show evOk (nthR_ (recs L).1 i) = false from HO5.out])))
        go_ret2
        exact ⟨⟨.slice none 0 0, by rw [HE.out] <;> rfl, by rw [HE.out]; exact Kd.S_nil _ _ _ _ _⟩, below_alloc HB4.out _⟩
      · replace ho : evOk (nthR_ (recs L).1 i) = true := by simpa using ho
        have HO5 := Aside0.mk ho; clear ho
        obtain ⟨n, rfl⟩ : ∃ n, gk = n + 1 := ⟨gk - 1, by have := HN.out; omega⟩
        have hi60 : 5 * (recs L).1.length ≤ 6000 := by have := recsFrom_used L L.length 0 (by omega); have h2 : (recsFrom L L.length 0) = recs L := rfl; rw [h2] at this; omega
        have hlt : (((recs L).1.take i).map evOf).length = i := by simp; omega
        have HLT := Aside0.mk hlt; clear hlt
        go_wp2_with (first | (go_at_call 59; go_must (refine (spec_l14Unpack _ _ (nthR_ (recs L).1 i) _ (G2.out _ HB3.out) q2 HYR.out).mono ?_; rintro e W4 ⟨⟨xe, v, rfl, hxe, hoe⟩, hbw⟩; obtain ⟨Av, dv, ev⟩ := Kd.R_slice hoe; subst ev; have HX := Aside0.mk (hxe HO5.out); have HB4 := Aside0.mk (HB3.out.trans (hbw.mono HB3.out.size)); have HO4 := Aside0.mk (Kd.S_old HO.out hbw); have HE4 := Aside0.mk (Kd.R_bound hoe); have hz4 : wr.heap.size ≤ W4.heap.size := hbw.size; rw [show evOk (nthR_ (recs L).1 i) = true from HO5.out]; clear hbw hoe hxe)) | ((with_reducible refine gate_builtin (b := .append) (xs := #[.tmp 34, .tmp 36]) rfl ?_); at_builtin; go_must (refine Kd.S_append kEvent (w0 := W2) W2.heap.size rfl (.tmp 34) (.tmp 36) 29 77 (.agg #[.bool false, .int .i64 0, .slice none 0 0, .int .i64 0]) 48 rfl Try.underlying29 infoEvent rfl (by decide) (by omega) _ (((recs L).1.take i).map evOf) xe [.bool xe.vote, .int .i64 xe.contract.id, .slice Av xe.contract.legs.length dv, .int .i64 xe.outcome] (fun _ => True) (fun q => wr.heap.size ≤ q ∧ q < W4.heap.size) rfl (by rw [World.size_alloc]; rfl) ?aP ?aK ?aF ?aO ?aB ?aS ?aL ?_; (case aP => exact kEvent_mkM xe (Kd.R_alloc (Kd.R_lower (Kd.R_mono HE4.out (fun q hq => ⟨hq.2.1, hq.2.2.1⟩)) HB3.out.size) _)); (case aK => exact fun q hq => ⟨trivial, fun he => by have := (Kd.S_R HO4.out).1 q he.symm; omega⟩); (case aF => exact (fun _ _ => trivial)); (case aO => exact Kd.S_alloc (Kd.S_mono HO4.out (fun q hq => ⟨trivial, fun h => by omega⟩)) _); (case aB => exact below_alloc HB4.out _); (case aS => exact (below_alloc HB4.out _).size); (case aL => rw [HLT.out]; omega); intro v5 W5 ho hb hg hat; have HB5 := Aside0.mk hb; have HO5b := Aside0.mk ho; clear ho hb hg hat)))
        go_roundg n
        case measure => have := HN.out; omega
        case rel => exact ⟨i + 1, by go_num, ⟨by have := HN.out; omega, fun j hj => by rcases Nat.lt_succ_iff_lt_or_eq.1 hj with hj | rfl; exact HP.out j hj; exact HO5.out, by rw [take_succ_row _ _ hi, List.map_append]; have h := HO5b.out; rw [HX.out] at h; exact h, HB5.out⟩⟩
    · obtain rfl : i = (recs L).1.length := by have := HN.out; omega
      have hgood := evs_good L h6 HP.out
      have HO6 := Aside0.mk (Kd.S_lower HO.out HB2.out.size)
      have htk : (((recs L).1.take (recs L).1.length).map evOf) = (recs L).1.map evOf := by rw [List.take_of_length_le (Nat.le_refl _)]
      rw [htk] at HO6
      obtain ⟨A6, c6, e6⟩ := Kd.S_slice HO6.out
      subst e6
      have hml : ((recs L).1.map evOf).length = (recs L).1.length := by simp
      rw [hml] at HO6
      have BK3 := Aside0.mk (blk_below BK2.out HB3.out)
      have HB6 := Aside0.mk (HB2.out.trans (HB3.out.mono HB2.out.size))
      have d0 := (blk_cell BK3.out 0).trans rfl
      have d1 := (blk_cell BK3.out 1).trans rfl
      rw [hml]
      clear HO HP htk hml hc0 hc1
      obtain ⟨Y, hY⟩ : ∃ Y, (recs L).1.map evOf = Y := ⟨_, rfl⟩
      rw [hY] at HO6 hgood
      clear hY
      obtain ⟨M, hM⟩ : ∃ M, (recs L).1.length = M := ⟨_, rfl⟩
      rw [hM] at HO6 hgood ⊢
      by_cases hu1 : (recs L).2 < L.length
      · have HE : Aside0 (eventsOf L = (5, [])) := ⟨by rw [hgood, if_pos hu1]⟩
        have tu : ((recs L).2 : Int) < (x.synced.length : Int) + (x.loose.length : Int) := by omega
        clear hu1 hgood hM
        go_wp2
        go_ret2
        exact ⟨⟨.slice none 0 0, by rw [HE.out] <;> rfl, by rw [HE.out]; exact Kd.S_nil _ _ _ _ _⟩, HB6.out⟩
      · have tu : ¬ ((recs L).2 : Int) < (x.synced.length : Int) + (x.loose.length : Int) := by omega
        by_cases h60 : M > 60
        · have HE : Aside0 (eventsOf L = (2, [])) := ⟨by rw [hgood, if_neg hu1, if_pos h60]⟩
          have t60 : (60 : Int) < (M : Int) := by omega
          clear hu1 hgood hM h60
          go_wp2
          go_ret2
          exact ⟨⟨.slice none 0 0, by rw [HE.out] <;> rfl, by rw [HE.out]; exact Kd.S_nil _ _ _ _ _⟩, HB6.out⟩
        · have HE : Aside0 (eventsOf L = (0, Y)) := ⟨by rw [hgood, if_neg hu1, if_neg h60]⟩
          have t60 : ¬ (60 : Int) < (M : Int) := by omega
          clear hu1 hgood hM h60
          go_wp2
          go_ret2
          exact ⟨⟨.slice A6 M c6, by rw [HE.out] <;> rfl, by rw [HE.out]; exact HO6.out⟩, HB6.out⟩

end Go.Proofs.Ytjlhdhbnaagajaa.J
