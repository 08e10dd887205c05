/- The reference's l4Sync. -/
import Derived.Test.YtjlhdhbnaagajaaSpecC
namespace Go.Proofs.Ytjlhdhbnaagajaa.J
open Go.RowKit Go.Proofs.YtjlhdhbnaagajaaW.PrintWords Go.Proofs.YtjlhdhbnaagajaaW.PrintLast Go.Proofs.YtjlhdhbnaagajaaW.PrintMore
set_option linter.unusedVariables false
set_option linter.unusedSimpArgs false

theorem R_lit0 {α : Type} (d : Kd α) (e base : Nat) (W : World) (hbase : base ≤ W.heap.size) : d.R e (W.alloc (.cells #[] e)) base (fun k => k = W.heap.size) (.slice (some ⟨W.heap.size, 0, none⟩) 0 0) [] := by
  refine ⟨fun k hk => ?_, [], ?_, ?_⟩
  · have : W.heap.size = k := by simpa [Value.ownBlock] using hk
    exact this.symm
  · have h2 := World.ownsRow_lit (base := base) (e := e) (size := d.sz) W #[] 0 hbase (by simp [maxLen]) (by simp)
    simpa using h2
  · exact Reps.none _ _
theorem ne_own {g b n c : Nat} (h : g ≠ b) : some g ≠ (Value.slice (some ⟨b, 0, none⟩) n c).ownBlock := by simpa [Value.ownBlock] using h
theorem own_far {α : Type} {d : Kd α} {e base m : Nat} {w : World} {v : Value} {xs : List α} (h : d.R e w base (fun k => m ≤ k) v xs) {g : Nat} (hg : g < m) : some g ≠ v.ownBlock := fun he => by have := h.1 g he.symm; omega
set_option maxRecDepth 100000 in
set_option maxHeartbeats 1600000 in
theorem spec_l4Sync (x : Log) (L : List Int) (hL : x.synced ++ x.loose = L) (cx : List Value) (w : World) (hx : kLog.K w x cx) (h0 : x.synced.length ≤ 1099511627776) (h1 : x.loose.length ≤ 1099511627776) : Calls Try.prog 58 #[.agg cx.toArray] w fun e w' => (∃ A c, e = .returned (.agg #[.slice A L.length c, .slice none 0 0]) ∧ L.length ≤ c ∧ Kd.C (Kd.int .u8) w' A L.length L) ∧ Below w.heap.size w w' := by
  obtain ⟨A0, c0, A1, c1, rfl, q0, g0, q1, g1⟩ := kLog_open hx
  have hu := Try.underlying34
  have HB := Aside0.mk (Below.refl w.heap.size w)
  have G0 := Aside0.mk g0; have G1 := Aside0.mk g1; clear g0 g1 hx
  go_enter Try.func58, Try.ntmps58
  go_wp2
  have BK0 := Aside0.mk (blk_alloc (blk_new w (Obj.cells #[Value.slice A0 x.synced.length c0, Value.slice A1 x.loose.length c1] 34)) (Obj.cells #[Value.slice none 0 0, Value.slice none 0 0] 34))
  have BK1 := Aside0.mk (blk_new1 w (Obj.cells #[Value.slice A0 x.synced.length c0, Value.slice A1 x.loose.length c1] 34) (Obj.cells #[Value.slice none 0 0, Value.slice none 0 0] 34))
  have HB5 := Aside0.mk (below_alloc (below_alloc (Below.refl w.heap.size w) (Obj.cells #[Value.slice A0 x.synced.length c0, Value.slice A1 x.loose.length c1] 34)) (Obj.cells #[Value.slice none 0 0, Value.slice none 0 0] 34))
  have hz5 : ((w.alloc (Obj.cells #[Value.slice A0 x.synced.length c0, Value.slice A1 x.loose.length c1] 34)).alloc (Obj.cells #[Value.slice none 0 0, Value.slice none 0 0] 34)).heap.size = w.heap.size + 2 := by simp
  generalize (w.alloc (Obj.cells #[Value.slice A0 x.synced.length c0, Value.slice A1 x.loose.length c1] 34)).alloc (Obj.cells #[Value.slice none 0 0, Value.slice none 0 0] 34) = W5 at BK0 BK1 HB5 hz5 ⊢
  clear HB; have HB := HB5; clear HB5
  have HL : Aside0 (Kd.R (Kd.int .u8) 5 (W5.alloc (.cells #[] 5)) w.heap.size (fun k => w.heap.size + 2 ≤ k) (.slice (some ⟨w.heap.size + 2, 0, none⟩) 0 0) []) := ⟨by have h := Kd.R_mono (ok' := fun k => w.heap.size + 2 ≤ k) (R_lit0 (Kd.int .u8) 5 w.heap.size W5 (by omega)) (fun k hk => by subst hk; omega); rw [hz5] at h; exact h⟩
  go_region_held3 (fun w' => w'.cell? ⟨w.heap.size, 0, none⟩ = some (.slice A0 x.synced.length c0) ∧ w'.cell? ⟨w.heap.size, 1, none⟩ = some (.slice A1 x.loose.length c1))
    (first | exact ⟨(blk_cell (g := w.heap.size) (t := 34) (cs := #[Value.slice A0 x.synced.length c0, Value.slice A1 x.loose.length c1]) (by repeat (first | (with_reducible exact BK0.out) | (with_reducible exact BK0a.out) | (with_reducible exact BK0b.out) | ((with_reducible refine blk_far ?_ ?fne _); (case fne => simp)) | (with_reducible refine blk_drew ?_) | (with_reducible refine blk_alloc ?_ _))) 0).trans rfl, (blk_cell (g := w.heap.size) (t := 34) (cs := #[Value.slice A0 x.synced.length c0, Value.slice A1 x.loose.length c1]) (by repeat (first | (with_reducible exact BK0.out) | (with_reducible exact BK0a.out) | (with_reducible exact BK0b.out) | ((with_reducible refine blk_far ?_ ?fne _); (case fne => simp)) | (with_reducible refine blk_drew ?_) | (with_reducible refine blk_alloc ?_ _))) 1).trans rfl⟩)
    (first | ((refine Kd.R_append_rows_step (Kd.int .u8) (w0 := w) w.heap.size (by rfl) (.tmp 3) (.tmp 5) 23 5 (.int .u8 0) 1 rfl Try.underlying23 infou8 rfl (by decide) (by omega) (.slice (some ⟨w.heap.size + 2, 0, none⟩) 0 0) ([] : List Int) x.synced _ _ _ (fun k => w.heap.size + 2 ≤ k) (fun _ => False) rfl rfl ?aO ?aR (fun _ _ h => h) (fun _ h => h.elim) ?aF ?aB ?aS ?aL ?_; (case aO => exact Kd.R_drew HL.out); (case aR => exact Kd.C_below G0.out (by (repeat (first | (with_reducible exact HB.out) | (with_reducible refine below_alloc ?_ _) | (with_reducible refine below_drew1 ?_) | (with_reducible refine pw_below_drewN ?_ _))))); (case aF => intro k hk; simp at hk; omega); (case aB => (repeat (first | (with_reducible exact HB.out) | (with_reducible refine below_alloc ?_ _) | (with_reducible refine below_drew1 ?_) | (with_reducible refine pw_below_drewN ?_ _)))); (case aS => simp; omega); (case aL => simp; omega); intro v1 W1 ho hb hg hat; have hz1 : w.heap.size + 2 ≤ W1.heap.size := (by have := hg.size; simp at this; omega); have BK0a := Aside0.mk (blk_grown (blk_drew (blk_alloc BK0.out (Obj.cells #[] 5))) hg (ne_own (by omega))); have BK1a := Aside0.mk (blk_grown (blk_drew (blk_alloc BK1.out (Obj.cells #[] 5))) hg (ne_own (by omega))); have HB1 := Aside0.mk hb; have HO1 := Aside0.mk ho; clear ho hb hg hat)) | (go_must (refine Kd.R_append_rows_step (Kd.int .u8) (w0 := w) w.heap.size (by rfl) (.tmp 6) (.tmp 8) 23 5 (.int .u8 0) 1 rfl Try.underlying23 infou8 rfl (by decide) (by omega) v1 ([] ++ x.synced) x.loose _ _ _ (fun k => w.heap.size + 2 ≤ k) (fun _ => False) rfl rfl ?aO ?aR (fun _ _ h => h) (fun _ h => h.elim) ?aF ?aB ?aS ?aL ?_; (case aO => exact HO1.out); (case aR => exact Kd.C_below G1.out HB1.out); (case aF => intro k hk; omega); (case aB => exact HB1.out); (case aS => exact HB1.out.size); (case aL => simp; omega); intro v2 W2 ho hb hg hat; have BK0b := Aside0.mk (blk_grown BK0a.out hg (own_far HO1.out (by omega))); have BK1b := Aside0.mk (blk_grown BK1a.out hg (own_far HO1.out (by omega))); have HB2 := Aside0.mk hb; rw [List.nil_append, hL] at ho; have HO2 := Aside0.mk ho; have hc2 := (blk_cell BK1b.out 0).trans rfl; have hc3 := (blk_cell BK1b.out 1).trans rfl; have hf2 := blk_frozen BK1b.out 0; have hf3 := blk_frozen BK1b.out 1; obtain ⟨A2, c2, hv2, hl2, hC2⟩ := Kd.R_reads HO2.out; subst hv2; clear ho hb hg hat)))
  go_wp2
  refine bodyPost_ret (v := .agg #[.slice A2 L.length c2, .slice none 0 0]) (results_cell_row rfl _ _ (w.heap.size + 1) 34 _ (0, 0) _ rfl (blk_put (cs := #[.slice A2 L.length c2, .slice none 0 0]) (cs' := #[.slice A2 L.length c2, .slice none 0 0]) (blk_put (cs := #[.slice none 0 0, .slice none 0 0]) (cs' := #[.slice A2 L.length c2, .slice none 0 0]) BK1b.out 0 _ rfl) 1 _ rfl) Try.underlying34 rfl (by kernel_rfl)) rfl ?_
  exact ⟨⟨A2, c2, rfl, hl2, (Kd.R_reads' (Kd.R_far (Kd.R_far HO2.out (fun k hk => by show k ≠ w.heap.size + 1; omega) _) (fun k hk => by show k ≠ w.heap.size + 1; omega) _)).2.2⟩, (by repeat (first | (with_reducible exact HB2.out) | (with_reducible refine below_alloc ?_ _) | (with_reducible refine below_drew1 ?_) | ((with_reducible refine below_set ?_ ?fle); (case fle => simp))))⟩

end Go.Proofs.Ytjlhdhbnaagajaa.J
