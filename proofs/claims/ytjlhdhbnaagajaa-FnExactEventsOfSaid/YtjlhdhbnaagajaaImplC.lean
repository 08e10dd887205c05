/- The program's rows of bytes. -/
import Derived.Test.YtjlhdhbnaagajaaImplB
import Derived.Test.YtjlhdhbnaagajaaSpecD
import Derived.Lib.AppendZeros
namespace Go.Proofs.Ytjlhdhbnaagajaa.J
open Go.RowKit Go.Proofs.YtjlhdhbnaagajaaW.PrintWords Go.Proofs.YtjlhdhbnaagajaaW.PrintLast Go.Proofs.YtjlhdhbnaagajaaW.PrintMore
set_option linter.unusedVariables false
set_option linter.unusedSimpArgs false

theorem ne_lt {α : Type} {d : Kd α} {e base : Nat} {ok : Nat → Prop} {w : World} {v : Value} {xs : List α} (h : d.R e w base ok v xs) {g : Nat} (hg : w.heap.size ≤ g) : some g ≠ v.ownBlock := fun he => by have := Kd.R_lt h g he.symm; omega
theorem packLegs_take (l : List Leg) (i : Nat) (h : i < l.length) : packLegs (l.take (i + 1)) = packLegs (l.take i) ++ ([(nthLeg_ l i).shard % 256, (nthLeg_ l i).account % 256, (nthLeg_ l i).asset % 256] ++ packNum (nthLeg_ l i).amount) := by
  rw [take_succ_leg l i h, packLegs_snoc]; rfl
set_option maxRecDepth 100000 in
set_option maxHeartbeats 1600000 in
theorem impl_packContract (x : Contract) (cx : List Value) (w : World) (hx : kContract.K w x cx) (hl : x.legs.length ≤ 8) : Calls Try.prog 111 #[.agg cx.toArray] w fun e w' => (∃ v, e = .returned v ∧ Kd.R (Kd.int .u8) 5 w' w.heap.size (fun _ => True) v (packCon x)) ∧ Below w.heap.size w w' := by
  obtain ⟨A1, c1, rfl, l1, g1⟩ := kContract_open hx
  have G1 := Aside0.mk g1; clear g1 hx
  have hu := Try.underlying75
  have hv := Try.underlying151
  go_enter Try.func111, Try.ntmps111
  go_wp2_with (first | (go_at_call 114; go_must (refine (impl_PackNumber _ _).mono ?_; rintro e W1 ⟨⟨v, rfl, ho⟩, hbw⟩; have BK1 := Aside0.mk (blk_below (blk_new w _) hbw); have HB1 := Aside0.mk (below_step (below_alloc (Below.refl w.heap.size w) _) hbw); have HO1 : Aside0 (Kd.R (Kd.int .u8) 5 W1 w.heap.size (fun q => w.heap.size + 1 ≤ q) v (packNum x.id)) := ⟨Kd.R_lower (Kd.R_mono (Kd.R_bound ho) (fun q h => by simpa using h.2.1)) (by simp)⟩; have hc1 := (blk_cell BK1.out 1).trans rfl; have hc0 := (blk_cell BK1.out 0).trans rfl; clear hbw ho)))
  go_loopg [3, 12] x.legs.length (fun n v3 v12 w' => ∃ (i : Nat), v12 = .int .i64 i ∧ Aside0 (n + i = x.legs.length ∧ Kd.R (Kd.int .u8) 5 w' w.heap.size (fun q => w.heap.size + 1 ≤ q) v3 (packNum x.id ++ packLegs (x.legs.take i)) ∧ w'.heap[w.heap.size]? = some (.cells #[.int .i64 x.id, .slice A1 x.legs.length c1] 75 (0, 0)) ∧ Below w.heap.size w w'))
  case atStart => exact ⟨0, rfl, ⟨by omega, by simpa [packLegs] using HO1.out, BK1.out, HB1.out⟩⟩
  case round =>
    clear HO1 HB1 BK1 hc1 hc0
    obtain ⟨i, rfl, ⟨HN, HO, BK, HB⟩⟩ := hrel
    replace HN := Aside0.mk HN; replace HO := Aside0.mk HO; replace BK := Aside0.mk BK; replace HB := Aside0.mk HB
    by_cases hi : i < x.legs.length
    · obtain ⟨ad, e0, x0⟩ := nthLeg G1.out i hi
      subst e0
      obtain ⟨y0, y1, y2, y3⟩ := x0 _ HB.out
      clear x0
      obtain ⟨X, hX⟩ : ∃ X, X = packNum x.id ++ packLegs (x.legs.take i) := ⟨_, rfl⟩
      have hXl : X.length ≤ 96 := by rw [hX]; simp [packNum_len, packLegs_len]; omega
      rw [← hX] at HO
      obtain ⟨g, hg⟩ : ∃ g, g = nthLeg_ x.legs i := ⟨_, rfl⟩
      have HS : Aside0 (packNum x.id ++ packLegs (x.legs.take (i + 1)) = X ++ [g.shard % 256, g.account % 256, g.asset % 256] ++ packNum g.amount) := ⟨by rw [packLegs_take _ _ hi, hX, hg]; simp⟩
      rw [← hg] at y0 y1 y2 y3
      have HXL := Aside0.mk hXl
      have hz0 : w.heap.size < wr.heap.size := blk_lt BK.out
      clear hX hXl hg
      go_wp2_with (first | ((with_reducible refine gate_dst (N := 26) rfl ?_); go_must (refine Kd.R_lit (Kd.int .u8) _ 5 ?hg (N := 26) ?hd (xs := [g.shard % 256, g.account % 256, g.asset % 256]) (inner := [.int .u8 (g.shard % 256), .int .u8 (g.account % 256), .int .u8 (g.asset % 256)]) (ok := fun _ => True) (okp := fun _ => True) ?hr ?hp (fun _ hk => hk) trivial (Below.refl _ _) (Nat.le_refl _) (by simp) ?_; (case hd => rfl); (case hg => rfl); (case hr => first | (go_simp; done) | (go_simp; rfl)); (case hp => exact (Reps.one (show Kd.M (Kd.int .u8) _ _ _ (g.shard % 256) [.int .u8 (g.shard % 256)] from rfl) (Reps.one (show Kd.M (Kd.int .u8) _ _ _ (g.account % 256) [.int .u8 (g.account % 256)] from rfl) (Reps.one (show Kd.M (Kd.int .u8) _ _ _ (g.asset % 256) [.int .u8 (g.asset % 256)] from rfl) (Reps.none _ _))))); intro vL w2 ho hb hg_ hnew_; clear hg_ hnew_; have HO2 := Aside0.mk (Kd.R_below (Kd.R_alloc HO.out _) hb); have BK2 := Aside0.mk (blk_below (blk_alloc BK.out _) hb); have BL2 := Aside0.mk (blk_below (blk_new wr _) hb); have HB2 := Aside0.mk (below_step (below_alloc HB.out _) hb); obtain ⟨AL, cL, eL, hlL, hCL⟩ := Kd.R_reads ho; subst eL; have HCL := Aside0.mk hCL; clear ho hb hCL)) | ((with_reducible refine gate_builtin (b := .append) (xs := #[.tmp 16, .tmp 26]) rfl ?_); at_builtin; go_must (refine Kd.R_append_rows (Kd.int .u8) (w0 := w) w.heap.size rfl (.tmp 16) (.tmp 26) 23 5 (.int .u8 0) 1 rfl Try.underlying23 infou8 rfl (by decide) (by omega) u3 X [g.shard % 256, g.account % 256, g.asset % 256] _ _ _ (fun q => w.heap.size + 1 ≤ q) (fun _ => False) rfl rfl ?aO ?aR (fun _ _ h => h) (fun _ h => h.elim) ?aF ?aB ?aS ?aL ?_; (case aR => exact HCL.out); (case aB => exact HB2.out); (case aO => exact HO2.out); (case aF => intro q hq; have := blk_lt BK2.out; omega); (case aS => exact HB2.out.size); (case aL => have := HXL.out; simp; omega); intro v1 w3 ho hb hgr hat; have HO3 := Aside0.mk ho; have HB3 := Aside0.mk hb; have BK3 := Aside0.mk (blk_grown BK2.out hgr (own_far HO2.out (by omega))); have BL3 := Aside0.mk (blk_grown BL2.out hgr (ne_lt HO.out (Nat.le_refl _))); have hl3 := (blk_cell BL3.out 3).trans rfl; clear ho hb hgr hat)) | (go_at_call 114; go_must (refine (impl_PackNumber _ _).mono ?_; rintro e W4 ⟨⟨v4, rfl, ho⟩, hbw⟩; have BK4 := Aside0.mk (blk_below BK3.out hbw); have HB4 := Aside0.mk (below_step HB3.out hbw); have HO4 := Aside0.mk (Kd.R_below HO3.out hbw); obtain ⟨AP, cP, eP, hlP, hCP⟩ := Kd.R_reads ho; subst eP; have HCP := Aside0.mk hCP; clear ho hbw hCP)) | ((with_reducible refine gate_builtin (b := .append) (xs := #[.tmp 28, .tmp 31]) rfl ?_); at_builtin; go_must (refine Kd.R_append_rows (Kd.int .u8) (w0 := w) w.heap.size rfl (.tmp 28) (.tmp 31) 23 5 (.int .u8 0) 1 rfl Try.underlying23 infou8 rfl (by decide) (by omega) v1 (X ++ [g.shard % 256, g.account % 256, g.asset % 256]) (packNum g.amount) _ _ _ (fun q => w.heap.size + 1 ≤ q) (fun _ => False) rfl rfl ?aO ?aR (fun _ _ h => h) (fun _ h => h.elim) ?aF ?aB ?aS ?aL ?_; (case aR => exact HCP.out); (case aB => exact HB4.out); (case aO => exact HO4.out); (case aF => intro q hq; have := blk_lt BK4.out; omega); (case aS => exact HB4.out.size); (case aL => have := HXL.out; have := packNum_len g.amount; simp; omega); intro v5 w5 ho hb hgr hat; rw [← HS.out] at ho; have HO5 := Aside0.mk ho; have HB5 := Aside0.mk hb; have BK5 := Aside0.mk (blk_grown BK4.out hgr (own_far HO4.out (by omega))); clear ho hb hgr hat)))
      go_roundg (gk - 1)
      case measure => have := HN.out; omega
      case rel => exact ⟨i + 1, by go_num, ⟨by have := HN.out; omega, HO5.out, BK5.out, HB5.out⟩⟩
    · have hfin : packNum x.id ++ packLegs (x.legs.take i) = packCon x := by rw [List.take_of_length_le (by omega)]; rfl
      rw [hfin] at HO
      clear hfin
      go_wp2
      go_ret
      exact ⟨⟨_, rfl, Kd.R_mono HO.out (fun _ _ => trivial)⟩, HB.out⟩
theorem R_cap (W : World) (base n G : Nat) (hb : base ≤ W.heap.size) (hn : n ≤ G) (hG : G ≤ maxLen) : (Kd.int .u8).R 5 (W.drew.alloc (.cells (Builtin.zeroCells (Value.int .u8 0).cells n ++ Builtin.zeroCells (Value.int .u8 0).cells (G - n)) 5)) base (fun _ => True) (.slice (some ⟨W.heap.size, 0, none⟩) 0 G) [] := by
  refine ⟨fun _ _ => trivial, [], ⟨by simp, .inr ⟨W.heap.size, G, (Builtin.zeroCells (Value.int .u8 0).cells n ++ Builtin.zeroCells (Value.int .u8 0).cells (G - n)), rfl, hb, ?_, Nat.zero_le _, hG, ?_, by simp⟩⟩, Reps.none _ _⟩
  · have h := blk_new W.drew (.cells (Builtin.zeroCells (Value.int .u8 0).cells n ++ Builtin.zeroCells (Value.int .u8 0).cells (G - n)) 5)
    simpa using h
  · simp [size_zeroCells, Value.cells, show (Kd.int .u8).sz = 1 from rfl]; omega
set_option maxRecDepth 100000 in
set_option maxHeartbeats 1600000 in
theorem slices_Grow_nil (n : Nat) (w : World) (hn : n ≤ 6000) : Calls Try.prog 109 #[.slice none 0 0, .int .i64 n] w fun e w' => (∃ v, e = .returned v ∧ Kd.R (Kd.int .u8) 5 w' w.heap.size (fun _ => True) v []) ∧ Below w.heap.size w w' := by
  by_cases h0 : n = 0
  · subst h0
    go_enter Try.func109, Try.ntmps109
    go_wp2
    go_ret
    exact ⟨⟨_, rfl, Kd.R_nil _ _ _ _ _⟩, Below.refl _ _⟩
  · obtain ⟨i0, hi, hz0, hsz, hby⟩ := info_parts infou8
    have hrz : ∀ ty, (Builtin.append_ #[23, 3] ty #[.slice none 0 0, .int .i64 n]).run Try.prog w = _ := fun ty => Lib.run_append_nil_zeros w 23 3 ty 5 i0 (.int .u8 0) .i64 .i64 Try.underlying23 Try.underlying3 hi hz0 n (by omega) (by omega) (by omega) (by rw [hby]; omega)
    have hGn : n ≤ grownCap w n 0 5 := grownCap_ge w _ _ _
    have hGm := grownCap_le_maxLen w n 0 5 (by unfold maxLen; omega)
    obtain ⟨G, hG⟩ : ∃ G, G = grownCap w n 0 5 := ⟨_, rfl⟩
    rw [← hG] at hrz hGn hGm
    have HGM := Aside0.mk hGm
    have hG63 : G ≤ 9223372036854775807 := by unfold maxLen at hGm; omega
    have h1 : (0 : Int) < n := by omega
    clear hG hGm
    go_enter Try.func109, Try.ntmps109
    go_wp2_with (at_builtin; refine Lib.wpList_append_run _ rfl _ _ _ _ rfl _ _ rfl rfl _ _ (hrz _) ?_)
    go_ret
    exact ⟨⟨_, rfl, R_cap w _ n G (Nat.le_refl _) hGn HGM.out⟩, by repeat (first | exact Below.refl _ _ | refine below_alloc ?_ _ | refine below_drew1 ?_)⟩
set_option maxRecDepth 100000 in
set_option maxHeartbeats 1600000 in
theorem slices_Concat2 (g : Nat) (A0 : Option Addr) (c0 : Nat) (l0 : List Int) (A1 : Option Addr) (c1 : Nat) (l1 : List Int) (c : Nat) (w : World) (h0 : w.cell? ⟨g, 0, none⟩ = some (.slice A0 l0.length c0)) (h1 : w.cell? ⟨g, 1, none⟩ = some (.slice A1 l1.length c1)) (hC0 : Kd.C (Kd.int .u8) w A0 l0.length l0) (hC1 : Kd.C (Kd.int .u8) w A1 l1.length l1) (hl : l0.length + l1.length ≤ 6000) :
    Calls Try.prog 64 #[.slice (some ⟨g, 0, none⟩) 2 c] w fun e w' => (∃ v, e = .returned v ∧ Kd.R (Kd.int .u8) 5 w' w.heap.size (fun _ => True) v (l0 ++ l1)) ∧ Below w.heap.size w w' := by
  have HC0 := Aside0.mk hC0; have HC1 := Aside0.mk hC1; clear hC0 hC1
  have H0 := Aside0.mk (pw_cell_below (w := w) (w1 := w) (Below.refl _ _) h0)
  have K0 : Aside0 (∀ w2, Below w.heap.size w w2 → w2.cell? ⟨g, 0, none⟩ = some (.slice A0 l0.length c0)) := ⟨fun w2 hb => pw_cell_below hb h0⟩
  have K1 : Aside0 (∀ w2, Below w.heap.size w w2 → w2.cell? ⟨g, 1, none⟩ = some (.slice A1 l1.length c1)) := ⟨fun w2 hb => pw_cell_below hb h1⟩
  clear H0
  go_enter Try.func64, Try.ntmps64
  go_wp2
  go_loopg [3, 11] 2 (fun m v3 v11 w' => Aside0 (w = w') ∧ ((m = 2 ∧ v11 = .int .i64 0 ∧ v3 = .int .i64 0) ∨ (m = 1 ∧ v11 = .int .i64 1 ∧ v3 = .int .i64 l0.length) ∨ (m = 0 ∧ v11 = .int .i64 2 ∧ v3 = .int .i64 ((l0.length : Int) + (l1.length : Int)))))
  case atStart => exact ⟨⟨rfl⟩, .inl ⟨rfl, rfl, rfl⟩⟩
  case round =>
    obtain ⟨⟨rfl⟩, ⟨HN, rfl, rfl⟩ | ⟨HN, rfl, rfl⟩ | ⟨HN, rfl, rfl⟩⟩ := hrel
    · replace HN := Aside0.mk HN
      go_wp2
      go_roundg 1
      case measure => have := HN.out; omega
      case rel => exact ⟨⟨rfl⟩, .inr (.inl ⟨rfl, rfl, rfl⟩)⟩
    · replace HN := Aside0.mk HN
      go_wp2
      go_roundg 0
      case measure => have := HN.out; omega
      case rel => exact ⟨⟨rfl⟩, .inr (.inr ⟨rfl, rfl, rfl⟩)⟩
    · clear HN h0 h1
      have hcast : (l0.length : Int) + (l1.length : Int) = ((l0.length + l1.length : Nat) : Int) := by omega
      rw [hcast]
      clear hcast
      go_wp2_with (first | (go_at_call 109; go_must (refine (slices_Grow_nil _ _ hl).mono ?_; rintro e W1 ⟨⟨v, rfl, ho⟩, hbw⟩; have HO1 := Aside0.mk ho; have HB1 := Aside0.mk hbw; clear ho hbw)))
      go_loopg [6, 27] 2 (fun m v6 v27 w' => ((m = 2 ∧ v27 = .int .i64 0 ∧ Aside0 (Kd.R (Kd.int .u8) 5 w' w.heap.size (fun _ => True) v6 [])) ∨ (m = 1 ∧ v27 = .int .i64 1 ∧ Aside0 (Kd.R (Kd.int .u8) 5 w' w.heap.size (fun _ => True) v6 l0)) ∨ (m = 0 ∧ v27 = .int .i64 2 ∧ Aside0 (Kd.R (Kd.int .u8) 5 w' w.heap.size (fun _ => True) v6 (l0 ++ l1)))) ∧ Aside0 (Below w.heap.size w w'))
      case atStart => exact ⟨.inl ⟨rfl, rfl, HO1⟩, HB1⟩
      case round =>
        clear HO1 HB1
        obtain ⟨⟨HN, rfl, HO⟩ | ⟨HN, rfl, HO⟩ | ⟨HN, rfl, HO⟩, HB⟩ := hrel
        · replace HN := Aside0.mk HN
          have k0 := K0.out _ HB.out
          go_wp2_with (first | ((with_reducible refine gate_builtin (b := .append) (xs := #[.tmp 31, .tmp 32]) rfl ?_); at_builtin; go_must (refine Kd.R_append_rows (Kd.int .u8) (w0 := w) w.heap.size rfl (.tmp 31) (.tmp 32) 23 5 (.int .u8 0) 1 rfl Try.underlying23 infou8 rfl (by decide) (by omega) u6 ([] : List Int) l0 _ _ _ (fun _ => True) (fun _ => False) rfl rfl ?aO ?aR (fun _ _ h => h) (fun _ h => h.elim) (fun _ _ => trivial) ?aB ?aS ?aL ?_; (case aR => exact Kd.C_below HC0.out HB.out); (case aB => exact HB.out); (case aO => exact HO.out); (case aS => exact HB.out.size); (case aL => simp; omega); intro v1 w3 ho hb hgr hat; rw [List.nil_append] at ho; have HO3 := Aside0.mk ho; have HB3 := Aside0.mk hb; clear ho hb hgr hat)))
          go_roundg 1
          case measure => have := HN.out; omega
          case rel => exact ⟨.inr (.inl ⟨rfl, rfl, HO3⟩), HB3⟩
        · replace HN := Aside0.mk HN
          have k1 := K1.out _ HB.out
          go_wp2_with (first | ((with_reducible refine gate_builtin (b := .append) (xs := #[.tmp 31, .tmp 32]) rfl ?_); at_builtin; go_must (refine Kd.R_append_rows (Kd.int .u8) (w0 := w) w.heap.size rfl (.tmp 31) (.tmp 32) 23 5 (.int .u8 0) 1 rfl Try.underlying23 infou8 rfl (by decide) (by omega) u6 l0 l1 _ _ _ (fun _ => True) (fun _ => False) rfl rfl ?aO ?aR (fun _ _ h => h) (fun _ h => h.elim) (fun _ _ => trivial) ?aB ?aS ?aL ?_; (case aR => exact Kd.C_below HC1.out HB.out); (case aB => exact HB.out); (case aO => exact HO.out); (case aS => exact HB.out.size); (case aL => omega); intro v1 w3 ho hb hgr hat; have HO3 := Aside0.mk ho; have HB3 := Aside0.mk hb; clear ho hb hgr hat)))
          go_roundg 0
          case measure => have := HN.out; omega
          case rel => exact ⟨.inr (.inr ⟨rfl, rfl, HO3⟩), HB3⟩
        · clear HN
          go_wp2
          go_ret
          exact ⟨⟨_, rfl, HO.out⟩, HB.out⟩

end Go.Proofs.Ytjlhdhbnaagajaa.J
