import Derived.Test.YtjlhdhbnaagajaaHeld
namespace Go.Proofs.Ytjlhdhbnaagajaa.J
open Go.RowKit Go.Proofs.YtjlhdhbnaagajaaW.PrintWords Go.Proofs.YtjlhdhbnaagajaaW.PrintLast Go.Proofs.YtjlhdhbnaagajaaW.PrintMore
set_option linter.unusedVariables false
set_option linter.unusedSimpArgs false
set_option maxRecDepth 100000 in
set_option maxHeartbeats 1600000 in
theorem markEventS (P : Nat → Prop) (v : Value) (l : List Event) (k : Int) (w0 w : World) (hB : Below w0.heap.size w0 w) (ho : Kd.S kEvent 77 w w0.heap.size P v l) (hk0 : 0 ≤ k) (hll : l.length ≤ 1099511627776) (hk1 : k + cntEventS l ≤ 4611686018427387904) :
    Calls Try.prog 37 #[v, .int .i64 k] w fun e w' => (∃ l', e = .returned (.int .i64 (k + cntEventS l)) ∧ Kd.S kEvent 77 w' w0.heap.size P v l' ∧ l'.length = l.length ∧ cntEventS l' = cntEventS l ∧ MarkedEventS l' k) ∧ Below w0.heap.size w0 w' ∧ Kept w w' P := by
  obtain ⟨A, c, rfl, hlc, hC⟩ := Kd.S_reads ho
  have HO := Aside0.mk ho; have HB := Aside0.mk hB; have HK := Aside0.mk (Kept.refl w P); clear ho hB hC
  go_enter Try.func37, Try.ntmps37
  go_wp2
  go_loopg [1, 5] l.length (fun n v1 v5 w' => ∃ (i : Nat) (K : Int), v5 = .int .i64 i ∧ v1 = .int .i64 K ∧ 0 ≤ K ∧ Aside0 (K = k + cntEventS (l.take i) ∧ n + i = l.length ∧ (∃ l', Kd.S kEvent 77 w' w0.heap.size P (.slice A l.length c) l' ∧ l'.length = l.length ∧ (∀ j, cntEvent (l'.getD j zEvent) = cntEvent (l.getD j zEvent)) ∧ ∀ j, j < i → MarkedEvent (nthEvent_ l' j) (k + cntEventS (l.take j))) ∧ Below w0.heap.size w0 w' ∧ Kept w w' P))
  case atStart => exact ⟨0, k, rfl, rfl, hk0, ⟨by simp [cntEventS], by omega, ⟨l, HO.out, rfl, fun _ => rfl, fun j h => by omega⟩, HB.out, HK.out⟩⟩
  case round =>
    clear HO HB HK
    obtain ⟨i, K, rfl, rfl, hK0, ⟨HE, HN, ⟨l', HO, HL, HCN, HM⟩, HB, HK⟩⟩ := hrel
    replace HE := Aside0.mk HE; replace HN := Aside0.mk HN; replace HL := Aside0.mk HL; replace HCN := Aside0.mk HCN; replace HM := Aside0.mk HM; replace HB := Aside0.mk HB; replace HK := Aside0.mk HK
    by_cases hi : i < l.length
    · have hs := sum_take_succ cntEvent l zEvent i hi; have hle := sum_take_le cntEvent l (i + 1)
      have HS : Aside0 (cntEventS (l.take (i + 1)) = cntEventS (l.take i) + cntEvent (l'.getD i zEvent)) := ⟨by rw [HCN.out]; exact hs⟩
      have hK1 : K + cntEvent (l'.getD i zEvent) ≤ 4611686018427387904 := by have := HE.out; have := HS.out; unfold cntEventS at *; omega
      clear hs hle
      obtain ⟨g, rfl, hPg, hbg, hgl, oki, cs, hcl, hM, hcc, hfr, hoki, hH⟩ := S_open HO zEvent i hi
      obtain ⟨v0, rfl, hR⟩ := kEvent_openM hM
      have hR0 := hR
      generalize hel : l'.getD i zEvent = X at hM hR hR0 hcc hcl hH hK1 HS
      skip
      obtain ⟨A0, c0, rfl, hl0, hC0⟩ := Kd.R_reads hR
      have x0 := hcc 0 _ rfl; have f0 := hfr 0; have x1 := hcc 1 _ rfl; have f1 := hfr 1; have x2 := hcc 2 _ rfl; have f2 := hfr 2; have x3 := hcc 3 _ rfl; have f3 := hfr 3
      simp only [show kEvent.sz = 4 from rfl, Nat.add_zero] at x0 x1 x2 x3 f0 f1 f2 f3 hcl
      have hgk : ¬ oki g := fun h => (hoki g h).2 rfl
      have hokP : ∀ q, oki q → P q := fun q h => (hoki q h).1
      clear hcc hfr hcl hM hC0
      simp only [cntEvent] at hK1
      have sg := H_seg' hH hi [.bool (((K) % 3 == 0)), .int .i64 (K + 1)] 0 (show 0 + 2 ≤ 4 by omega) (by intro q hq; simp at hq; rcases hq with rfl | rfl <;> rfl)
      simp only [show kEvent.sz = 4 from rfl, Nat.add_zero] at sg
      have hR1 := Kd.R_grown hR0 sg.2 (fun q h he => hgk (by injection he with he; exact he ▸ h))
      have sg1 : Kd.H kEvent 77 (wr.setCells g (i * 4) [.bool (((K) % 3 == 0)), .int .i64 (K + 1)]) w0.heap.size P (.slice (some ⟨g, 0, none⟩) l.length c) l' i oki [.bool (((K) % 3 == 0)), .int .i64 (K + 1), .slice A0 X.contract.legs.length c0, .int .i64 X.outcome] := sg.1
      have H1 := Aside0.mk (And.intro sg1 (And.intro (below_own HB.out sg.2 hbg) (And.intro (kept_own HK.out sg.2 hPg) (And.intro hR1 sg.2.size))))
      clear HO hH hR hR0 HB HK sg hR1 sg1
      replace hPg := Aside0.mk hPg; replace hbg := Aside0.mk hbg; replace hgk := Aside0.mk hgk; replace hokP := Aside0.mk hokP; replace hoki := Aside0.mk hoki; replace hgl := Aside0.mk hgl; replace hel := Aside0.mk hel
      go_wp2_with (first | (go_at_call 74; go_must (refine (markLegS oki _ _ _ w0 _ H1.out.2.1 H1.out.2.2.2.1 (by omega) (by omega)).mono ?_; rintro e w2 ⟨⟨Y, rfl, hR2, hYl, hYm⟩, hB2, hK2⟩; have hH2 := Kd.H_kept H1.out.1 hK2 (fun q h1 h2 => h2); have hce := H_cells hH2 zEvent hi; simp only [show kEvent.sz = 4 from rfl, Nat.add_zero] at hce; have y3 := hce.1 3 _ rfl; have q3 := hce.2 3; have sg := H_seg' hH2 hi [.int .i64 (K + 1 + 1 + ↑(cntLegS X.contract.legs))] 3 (show 3 + 1 ≤ 4 by omega) (by intro q hq; simp at hq; rcases hq with rfl <;> rfl); simp only [show kEvent.sz = 4 from rfl, Nat.add_zero] at sg; have hR3 := Kd.R_grown hR2 sg.2 (fun q h he => hgk.out (by injection he with he; exact he ▸ h)); have sg1 : Kd.H kEvent 77 (w2.setCells g (i * 4 + 3) [.int .i64 (K + 1 + 1 + ↑(cntLegS X.contract.legs))]) w0.heap.size P (.slice (some ⟨g, 0, none⟩) l.length c) l' i oki [.bool (((K) % 3 == 0)), .int .i64 (K + 1), .slice A0 X.contract.legs.length c0, .int .i64 (K + 1 + 1 + ↑(cntLegS X.contract.legs))] := sg.1; have H2 := Aside0.mk (And.intro sg1 (And.intro (below_own hB2 sg.2 hbg.out) (And.intro (kept_own (H1.out.2.2.1.then_ hK2 (fun q h => .inl (hokP.out q h))) sg.2 hPg.out) (And.intro hR3 (And.intro hYl hYm))))); clear sg sg1 hR3; clear hce hH2 hR2 hYl hYm hB2 hK2)))
      go_roundg (gk - 1)
      case measure => have := HN.out; omega
      case rel =>
        have hE := HE.out; have hL := HL.out; have hMM := HM.out; have hS := HS.out; have hcn := HCN.out; have hel := hel.out; obtain ⟨hH3, hB3, hK3, hR3, hYl, hYm⟩ := H2.out
        have hcY : cntLegS Y = cntLegS X.contract.legs := by simp only [cntLegS]; rw [hYl]
        have hnew := Kd.H_back hH3 (x' := ⟨((K) % 3 == 0), ⟨K + 1, Y⟩, K + 1 + 1 + ↑(cntLegS X.contract.legs)⟩) (kEvent_mkM _ hR3) (fun _ h => h)
        rw [Int.toNat_natCast] at hnew
        refine ⟨i + 1, K + 1 + 1 + ↑(cntLegS X.contract.legs) + 1, by go_num, rfl, by omega, ⟨by simp only [cntEvent] at hS; omega, by have := HN.out; omega, ⟨_, hnew, by rw [List.length_set]; exact hL, fun j => ?_, fun j hj => ?_⟩, hB3, hK3⟩⟩
        · by_cases hj : j = i
          · subst hj; rw [getD_set_eq _ _ _ _ (by omega), ← hcn, hel]; simp only [cntEvent]; omega
          · rw [getD_set_ne _ _ _ _ _ hj]; exact hcn j
        · unfold nthEvent_ at hMM ⊢
          rcases Nat.lt_succ_iff_lt_or_eq.1 hj with hj | rfl
          · rw [getD_set_ne _ _ _ _ _ (by omega)]; exact hMM j hj
          · rw [getD_set_eq _ _ _ _ (by omega), ← hE]; unfold MarkedEvent; simp only []; refine ⟨?_, ?_, ?_, ?_⟩ <;> first | trivial | exact hYm | (rw [hcY])
    · obtain rfl : i = l.length := by have := HN.out; omega
      have hE := HE.out
      have hcc := sum_take_congr cntEvent l l' zEvent HL.out HCN.out
      replace hcc := Aside0.mk hcc
      go_wp2
      go_ret
      have hc1 := hcc.out l.length (Nat.le_refl _)
      rw [List.take_of_length_le (Nat.le_of_eq HL.out), List.take_of_length_le (Nat.le_refl _)] at hc1
      exact ⟨⟨l', by rw [hE]; simp, HO, HL.out, hc1, fun j hj => by rw [show cntEventS (l'.take j) = cntEventS (l.take j) from hcc.out j (by have := HL.out; omega)]; exact HM.out j (by have := HL.out; omega)⟩, HB.out, HK.out⟩
end Go.Proofs.Ytjlhdhbnaagajaa.J
