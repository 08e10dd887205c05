import Derived.Test.YtjlhdhbnaagajaaSz
namespace Go.Proofs.Ytjlhdhbnaagajaa.J
open Go.RowKit Go.Proofs.YtjlhdhbnaagajaaW.PrintWords Go.Proofs.YtjlhdhbnaagajaaW.PrintLast Go.Proofs.YtjlhdhbnaagajaaW.PrintMore
set_option linter.unusedVariables false
set_option linter.unusedSimpArgs false
theorem infou8 : (Try.prog.info? 5).map (fun i => (i.zero, i.size, i.bytes)) = some (some (.int .u8 0), 1, 1) := by kernel_rfl
set_option maxRecDepth 100000 in
set_option maxHeartbeats 1600000 in
theorem toByteS (A : Option Addr) (c : Nat) (l : List Int) (w : World) (hC : Kd.C (Kd.int .u8) w A l.length l) (hlc : l.length ≤ c) (hl : l.length ≤ 1099511627776) :
    Calls Try.prog 61 #[.slice A l.length c] w fun e w' => ∃ v : Value, e = .returned v ∧ Kd.R (Kd.int .u8) 5 w' w.heap.size (fun _ => True) v l ∧ Below w.heap.size w w' := by
  have HC := Aside0.mk hC; clear hC
  go_enter Try.func61, Try.ntmps61
  go_wp2_with (first | ((with_reducible refine gate_dst (N := 7) rfl ?_); refine Kd.R_make (Kd.int .u8) w.heap.size 5 rfl (N := 7) rfl 23 _ _ rfl (l.length : Int) rfl rfl Try.underlying23 (.int .u8 0) 1 infou8 rfl (by decide) (by omega) 0 (ok := fun _ => True) (okp := fun _ => True) rfl (fun _ hk => hk) trivial (by omega) (by omega) (Below.refl _ _) (Nat.le_refl _) ?_; intro v w4 ho hb hg_ hnew_; obtain ⟨Av, cv, hv⟩ := Kd.R_slice ho; have hrl : (List.replicate (l.length : Int).toNat (0 : Int)).length = l.length := (by simp); rw [hrl] at hv; subst hv; have HO := Aside0.mk ho; have HB := Aside0.mk hb; clear ho hb hg_ hnew_; replace hrl := Aside0.mk hrl))
  go_loopg [4] l.length (fun n v4 w' => ∃ i : Nat, v4 = .int .i64 i ∧ Aside0 (n + i = l.length ∧ (∃ l', Kd.R (Kd.int .u8) 5 w' w.heap.size (fun _ => True) (.slice Av l.length cv) l' ∧ l'.length = l.length ∧ ∀ j, j < i → nthu8_ l' j = nthu8_ l j) ∧ Below w.heap.size w w'))
  case atStart => exact ⟨0, rfl, ⟨by omega, ⟨_, HO.out, hrl.out, fun j h => by omega⟩, HB.out⟩⟩
  case round =>
    clear HO HB
    obtain ⟨i, rfl, ⟨HN, ⟨l', HO, HL, HM⟩, HB⟩⟩ := hrel
    replace HN := Aside0.mk HN; replace HL := Aside0.mk HL; replace HM := Aside0.mk HM; replace HB := Aside0.mk HB
    by_cases hi : i < l.length
    · obtain ⟨ad, e0, x0⟩ := nthu8 HC.out i hi
      subst e0
      obtain ⟨g, rfl, _, hbg, cs, hcl, hM, hcc, hfr, _⟩ := R_open HO 0 i hi
      obtain rfl := hM
      have h0 := hcc 0 _ rfl; have f0 := hfr 0
      simp only [show (Kd.int .u8).sz = 1 from rfl, Nat.mul_one, Nat.add_zero] at h0 f0
      have x1 := x0 _ HB.out; clear x0 hcc hfr hcl
      have seg0 := R_full HO 0 i hi [.int .u8 (nthu8_ l i)] (nthu8_ l i) rfl (okp := fun _ => False) rfl (fun _ h => h.elim)
      simp only [show (Kd.int .u8).sz = 1 from rfl, Nat.mul_one, Nat.add_zero] at seg0
      have seg := Aside0.mk seg0; clear seg0
      replace hbg := Aside0.mk hbg; clear HO
      go_wp2
      go_roundg (gk - 1)
      case measure => have := HN.out; omega
      case rel =>
        have hMM := HM.out
        refine ⟨i + 1, by go_num, ⟨by have := HN.out; omega, ⟨_, seg.out.1, by rw [List.length_set]; exact HL.out, fun j hj => ?_⟩, below_own HB.out seg.out.2 hbg.out⟩⟩
        rcases Nat.lt_succ_iff_lt_or_eq.1 hj with hj | rfl
        · rw [← hMM j hj]; unfold nthu8_; rw [getD_set_ne _ _ _ _ _ (by omega)]
        · rw [show nthu8_ (l'.set j (nthu8_ l j)) j = (nthu8_ l j) from getD_set_eq _ _ _ _ (by have := HL.out; omega)]
    · obtain rfl : i = l.length := by have := HN.out; omega
      have hll : l' = l := list_eq_of 0 HL.out (fun j hj => HM.out j (by have := HL.out; omega))
      subst hll
      replace HO := Aside0.mk HO
      go_wp2
      go_ret
      exact ⟨_, rfl, HO.out, HB.out⟩
theorem infoBalance : (Try.prog.info? 110).map (fun i => (i.zero, i.size, i.bytes)) = some (some (.agg #[.int .i64 0, .int .i64 0, .int .i64 0]), 3, 24) := by kernel_rfl
set_option maxRecDepth 100000 in
set_option maxHeartbeats 1600000 in
theorem toBalanceS (A : Option Addr) (c : Nat) (l : List Balance) (w : World) (hC : Kd.C kBalance w A l.length l) (hlc : l.length ≤ c) (hl : l.length ≤ 1099511627776) :
    Calls Try.prog 27 #[.slice A l.length c] w fun e w' => ∃ v : Value, e = .returned v ∧ Kd.R kBalance 110 w' w.heap.size (fun _ => True) v l ∧ Below w.heap.size w w' := by
  have HC := Aside0.mk hC; clear hC
  go_enter Try.func27, Try.ntmps27
  go_wp2_with (first | ((with_reducible refine gate_dst (N := 7) rfl ?_); refine Kd.R_make kBalance w.heap.size 110 rfl (N := 7) rfl 33 _ _ rfl (l.length : Int) rfl rfl Try.underlying33 (.agg #[.int .i64 0, .int .i64 0, .int .i64 0]) 24 infoBalance rfl (by decide) (by omega) zBalance (ok := fun _ => True) (okp := fun _ => True) (kBalance_mkM zBalance) (fun _ hk => hk) trivial (by omega) (by omega) (Below.refl _ _) (Nat.le_refl _) ?_; intro v w4 ho hb hg_ hnew_; obtain ⟨Av, cv, hv⟩ := Kd.R_slice ho; have hrl : (List.replicate (l.length : Int).toNat (zBalance : Balance)).length = l.length := (by simp); rw [hrl] at hv; subst hv; have HO := Aside0.mk ho; have HB := Aside0.mk hb; clear ho hb hg_ hnew_; replace hrl := Aside0.mk hrl))
  go_loopg [4] l.length (fun n v4 w' => ∃ i : Nat, v4 = .int .i64 i ∧ Aside0 (n + i = l.length ∧ (∃ l', Kd.R kBalance 110 w' w.heap.size (fun _ => True) (.slice Av l.length cv) l' ∧ l'.length = l.length ∧ ∀ j, j < i → nthBalance_ l' j = nthBalance_ l j) ∧ Below w.heap.size w w'))
  case atStart => exact ⟨0, rfl, ⟨by omega, ⟨_, HO.out, hrl.out, fun j h => by omega⟩, HB.out⟩⟩
  case round =>
    clear HO HB
    obtain ⟨i, rfl, ⟨HN, ⟨l', HO, HL, HM⟩, HB⟩⟩ := hrel
    replace HN := Aside0.mk HN; replace HL := Aside0.mk HL; replace HM := Aside0.mk HM; replace HB := Aside0.mk HB
    by_cases hi : i < l.length
    · obtain ⟨ad, e0, x0⟩ := nthBalance HC.out i hi
      subst e0
      obtain ⟨g, rfl, _, hbg, cs, hcl, hM, hcc, hfr, _⟩ := R_open HO zBalance i hi
      obtain rfl := kBalance_openM hM
      have h0 := hcc 0 _ rfl; have f0 := hfr 0; have h1 := hcc 1 _ rfl; have f1 := hfr 1; have h2 := hcc 2 _ rfl; have f2 := hfr 2
      simp only [show kBalance.sz = 3 from rfl, Nat.add_zero] at h0 f0 h1 f1 h2 f2
      obtain ⟨x1, x2, x3⟩ := x0 _ HB.out
      clear x0 hcl hM hcc hfr
      replace hbg := Aside0.mk hbg; replace HO := Aside0.mk HO
      have hgl := Aside0.mk (Kd.R_lt HO.out g (by simp [Value.ownBlock]))
      go_wp2_with (first | (go_at_call 60; go_must (refine (toBalance (nthBalance_ l i) _).mono ?_; rintro e w2 ⟨rfl, hbw⟩; have seg := Aside0.mk (R_full (Kd.R_below HO.out hbw) zBalance i hi [.int .i64 (nthBalance_ l i).account, .int .i64 (nthBalance_ l i).asset, .int .i64 (nthBalance_ l i).amount] (nthBalance_ l i) rfl (okp := fun _ => False) (kBalance_mkM _) (fun _ h => h.elim)); have HB1 : Aside0 (Below w.heap.size w w2) := ⟨below_step HB.out hbw⟩; clear HB; have HB := HB1; clear HB1; have hc : ∀ o, w2.cell? ⟨g, o, none⟩ = wr.cell? ⟨g, o, none⟩ := fun o => (bcell hbw).1 g o hgl.out; have hf : ∀ o, w2.frozen? ⟨g, o, none⟩ = wr.frozen? ⟨g, o, none⟩ := fun o => (bcell hbw).2 g o hgl.out; clear hbw)))
      go_roundg (gk - 1)
      case measure => have := HN.out; omega
      case rel =>
        have hMM := HM.out
        refine ⟨i + 1, by go_num, ⟨by have := HN.out; omega, ⟨_, seg.out.1, by rw [List.length_set]; exact HL.out, fun j hj => ?_⟩, below_own HB.out seg.out.2 hbg.out⟩⟩
        rcases Nat.lt_succ_iff_lt_or_eq.1 hj with hj | rfl
        · rw [← hMM j hj]; unfold nthBalance_; rw [getD_set_ne _ _ _ _ _ (by omega)]
        · rw [show nthBalance_ (l'.set j (nthBalance_ l j)) j = (nthBalance_ l j) from getD_set_eq _ _ _ _ (by have := HL.out; omega)]
    · obtain rfl : i = l.length := by have := HN.out; omega
      have hll : l' = l := list_eq_of zBalance HL.out (fun j hj => HM.out j (by have := HL.out; omega))
      subst hll
      replace HO := Aside0.mk HO
      go_wp2
      go_ret
      exact ⟨_, rfl, HO.out, HB.out⟩
end Go.Proofs.Ytjlhdhbnaagajaa.J
