/- What the laws' marks write, and what they read again. -/
import Derived.Test.YtjlhdhbnaagajaaEq
namespace Go.Proofs.Ytjlhdhbnaagajaa.J
open Go.RowKit Go.Proofs.YtjlhdhbnaagajaaW.PrintWords Go.Proofs.YtjlhdhbnaagajaaW.PrintLast Go.Proofs.YtjlhdhbnaagajaaW.PrintMore
set_option linter.unusedVariables false
set_option linter.unusedSimpArgs false

/-- A row of the call's own, opened at place i: its block, the element's cells, and what a run of cells written there makes of it. -/
theorem R_open {α : Type} {d : Kd α} {e base n c : Nat} {W : World} {ok : Nat → Prop} {A : Option Addr} {xs : List α} (h : d.R e W base ok (.slice A n c) xs) (z : α) (i : Nat) (hi : i < n) :
    ∃ g, A = some ⟨g, 0, none⟩ ∧ ok g ∧ base ≤ g ∧ ∃ cs : List Value, cs.length = d.sz ∧ d.M W base (fun k => ok k ∧ k ≠ g) (xs.getD i z) cs ∧ (∀ j u, cs[j]? = some u → W.cell? ⟨g, i * d.sz + j, none⟩ = some u) ∧ (∀ j, W.frozen? ⟨g, i * d.sz + j, none⟩ = false) ∧
      ∀ (seg : List Value) (x' : α) (okp : Nat → Prop) (j : Nat), j + seg.length ≤ d.sz → d.M W base okp x' (cs.take j ++ seg ++ cs.drop (j + seg.length)) → (∀ k, okp k → ok k ∧ k ≠ g) → d.R e (W.setCells g (i * d.sz + j) seg) base ok (.slice (some ⟨g, 0, none⟩) n c) (xs.set i x') ∧ W.grownBy (W.setCells g (i * d.sz + j) seg) (some g) := by
  obtain ⟨ad, _, e0, _, _⟩ := Kd.C_get (Kd.R_reads' h).2.2 z i (by omega) (by have := (Kd.R_reads' h).1; omega)
  obtain ⟨g, rfl⟩ : ∃ g, ad = ⟨g, 0, none⟩ := Kd.R_head (e0 ▸ h)
  subst e0
  obtain ⟨cs, hcl, hM, hcc, hfr⟩ := Kd.R_elem h z i (by omega) (by omega)
  rw [Int.toNat_natCast] at hcc hfr hM
  refine ⟨g, rfl, h.1 g (by simp [Value.ownBlock]), Kd.R_base h g (by simp [Value.ownBlock]), cs, hcl, hM, hcc, hfr, fun seg x' okp j hj hM' hok => ?_⟩
  have := Kd.R_seg h (i : Int) (by omega) (by omega) (seg := seg) (j := j) hcl (by rw [Int.toNat_natCast]; exact hcc) hj hM' hok
  rwa [Int.toNat_natCast] at this
/-- The same where the elements lead to rows of their own (S): the element's cells, its blocks (oki), and the row without it. -/
theorem S_open {α : Type} {d : Kd α} {e base n c : Nat} {W : World} {ok : Nat → Prop} {A : Option Addr} {xs : List α} (h : Kd.S d e W base ok (.slice A n c) xs) (z : α) (i : Nat) (hi : i < n) :
    ∃ g, A = some ⟨g, 0, none⟩ ∧ ok g ∧ base ≤ g ∧ g < W.heap.size ∧ ∃ (oki : Nat → Prop) (cs : List Value), cs.length = d.sz ∧ d.M W base oki (xs.getD i z) cs ∧ (∀ j u, cs[j]? = some u → W.cell? ⟨g, i * d.sz + j, none⟩ = some u) ∧ (∀ j, W.frozen? ⟨g, i * d.sz + j, none⟩ = false) ∧ (∀ k, oki k → ok k ∧ k ≠ g) ∧ Kd.H d e W base ok (.slice (some ⟨g, 0, none⟩) n c) xs i oki cs := by
  obtain ⟨ad, _, e0, _, _⟩ := Kd.C_get (Kd.S_reads' h).2.2 z i (by omega) (by have := (Kd.S_reads' h).1; omega)
  obtain ⟨g, rfl⟩ : ∃ g, ad = ⟨g, 0, none⟩ := Kd.R_head (e0 ▸ Kd.S_R h)
  subst e0
  obtain ⟨oki, cs, hcl, hM, hcc, hfr, hoki, hH⟩ := Kd.S_elem h z i (by omega) (by omega)
  rw [Int.toNat_natCast] at hcc hfr hM
  exact ⟨g, rfl, (Kd.S_R h).1 g (by simp [Value.ownBlock]), Kd.R_base (Kd.S_R h) g (by simp [Value.ownBlock]), Kd.S_lt h g (by simp [Value.ownBlock]), oki, cs, hcl, hM, hcc, hfr, hoki, hH⟩
theorem H_seg' {α : Type} {d : Kd α} {e base n c g i : Nat} {W : World} {ok oki : Nat → Prop} {xs : List α} {cs : List Value} (h : Kd.H d e W base ok (.slice (some ⟨g, 0, none⟩) n c) xs i oki cs) (hi : i < n) (seg : List Value) (j : Nat) (hj : j + seg.length ≤ d.sz) (hone : ∀ q ∈ seg, q.oneCell' = true) :
    Kd.H d e (W.setCells g (i * d.sz + j) seg) base ok (.slice (some ⟨g, 0, none⟩) n c) xs i oki (cs.take j ++ seg ++ cs.drop (j + seg.length)) ∧ W.grownBy (W.setCells g (i * d.sz + j) seg) (some g) := by
  have := Kd.H_seg h (by omega) (by omega) hj hone
  rwa [Int.toNat_natCast] at this
theorem H_cells {α : Type} {d : Kd α} {e base n c g i : Nat} {W : World} {ok oki : Nat → Prop} {xs : List α} {cs : List Value} (h : Kd.H d e W base ok (.slice (some ⟨g, 0, none⟩) n c) xs i oki cs) (z : α) (hi : i < n) :
    (∀ j u, cs[j]? = some u → W.cell? ⟨g, i * d.sz + j, none⟩ = some u) ∧ ∀ j, W.frozen? ⟨g, i * d.sz + j, none⟩ = false := by
  obtain ⟨_, f, hR⟩ := h
  obtain ⟨c', hcl, hM, hcc, hfr⟩ := Kd.R_elem hR (z, i) (i : Int) (by omega) (by omega)
  rw [Int.toNat_natCast] at hcc hfr hM
  have hn := (Kd.R_reads' hR).1
  rw [List.length_zipIdx] at hn
  have he : (xs.zipIdx.getD i (z, i)).2 = (i : Int).toNat := by
    rw [List.getD_eq_getElem?_getD, List.getElem?_zipIdx, List.getElem?_eq_getElem (by omega)]; simp
  have h1 : c' = cs := (hM.1 he).1
  subst h1
  exact ⟨hcc, hfr⟩
theorem below_own {w0 W W2 : World} {g : Nat} (h : Below w0.heap.size w0 W) (hg : W.grownBy W2 (some g)) (hb : w0.heap.size ≤ g) : Below w0.heap.size w0 W2 :=
  pw_below_grown h (some g) h.size hg (fun k hk => by injection hk with hk; omega)
theorem kept_own {w W W2 : World} {g : Nat} {S : Nat → Prop} (h : Kept w W S) (hg : W.grownBy W2 (some g)) (hS : S g) : Kept w W2 S :=
  Kept.of_grown hg h (fun k hk => by injection hk with hk; subst hk; exact .inl hS)
theorem kept_cells {W W2 : World} {S : Nat → Prop} {g : Nat} (hk : Kept W W2 S) (hg : ¬ S g) (hl : g < W.heap.size) : (∀ o, W2.cell? ⟨g, o, none⟩ = W.cell? ⟨g, o, none⟩) ∧ (∀ o, W2.frozen? ⟨g, o, none⟩ = W.frozen? ⟨g, o, none⟩) := by
  have := hk.2 g hl hg
  exact ⟨fun o => by simp [World.cell?, this], fun o => by simp [World.frozen?, this]⟩
theorem getD_set_eq {α : Type} (xs : List α) (i : Nat) (x z : α) (h : i < xs.length) : (xs.set i x).getD i z = x := by simp [h]
theorem getD_set_ne {α : Type} (xs : List α) (i j : Nat) (x z : α) (h : j ≠ i) : (xs.set i x).getD j z = xs.getD j z := by simp [List.getElem?_set, Ne.symm h]

theorem sum_take_succ {α : Type} (f : α → Nat) (l : List α) (z : α) (i : Nat) (h : i < l.length) : ((l.take (i + 1)).map f).sum = ((l.take i).map f).sum + f (l.getD i z) := by
  rw [List.take_succ_eq_append_getElem h, List.map_append, List.sum_append]
  simp [h]
theorem sum_take_le {α : Type} (f : α → Nat) (l : List α) (i : Nat) : ((l.take i).map f).sum ≤ (l.map f).sum := by
  conv => rhs; rw [← List.take_append_drop i l, List.map_append, List.sum_append]
  omega
theorem sum_take_congr {α : Type} (f : α → Nat) (l l' : List α) (z : α) (hl : l'.length = l.length) (h : ∀ j, f (l'.getD j z) = f (l.getD j z)) : ∀ i, i ≤ l.length → ((l'.take i).map f).sum = ((l.take i).map f).sum
  | 0, _ => by simp
  | i + 1, hi => by rw [sum_take_succ f l z i (by omega), sum_take_succ f l' z i (by omega), h i, sum_take_congr f l l' z hl h i (by omega)]
def cntByteS (l : List Int) : Nat := l.length
def MarkedOne_u8 (x : Int) (k : Int) : Prop := x = (k) % 256
theorem MarkedOne_u8.eq {x k : Int} (h : MarkedOne_u8 x k) : x = (k) % 256 := h
def MarkedByteS (l : List Int) (k : Int) : Prop := ∀ i, i < l.length → MarkedOne_u8 (nthu8_ l i) (k + i)
set_option maxRecDepth 100000 in
set_option maxHeartbeats 800000 in
theorem markByteS (P : Nat → Prop) (v : Value) (l : List Int) (k : Int) (w0 w : World) (hB : Below w0.heap.size w0 w) (ho : Kd.R (Kd.int .u8) 5 w w0.heap.size P v l) (hk0 : 0 ≤ k) (hk1 : k + cntByteS l ≤ 4611686018427387904) :
    Calls Try.prog 73 #[v, .int .i64 k] w fun e w' => (∃ l', e = .returned (.int .i64 (k + cntByteS l)) ∧ Kd.R (Kd.int .u8) 5 w' w0.heap.size P v l' ∧ l'.length = l.length ∧ MarkedByteS l' k) ∧ Below w0.heap.size w0 w' ∧ Kept w w' P := by
  unfold cntByteS at hk1 ⊢
  obtain ⟨A, c, rfl, hlc, hC⟩ := Kd.R_reads ho
  have HO := Aside0.mk ho; have HB := Aside0.mk hB; have HK := Aside0.mk (Kept.refl w P); clear ho hB hC
  go_enter Try.func73, Try.ntmps73
  go_wp2
  go_loopg [1, 5] l.length (fun n v1 v5 w' => ∃ (i : Nat) (K : Int), v5 = .int .i64 i ∧ v1 = .int .i64 K ∧ 0 ≤ K ∧ K + 1 * (l.length - i : Nat) ≤ 4611686018427387904 ∧ Aside0 (K = k + i ∧ n + i = l.length ∧ (∃ l', Kd.R (Kd.int .u8) 5 w' w0.heap.size P (.slice A l.length c) l' ∧ l'.length = l.length ∧ ∀ j, j < i → MarkedOne_u8 (nthu8_ l' j) (k + j)) ∧ Below w0.heap.size w0 w' ∧ Kept w w' P))
  case atStart => exact ⟨0, k, rfl, rfl, hk0, by omega, ⟨by omega, by omega, ⟨l, HO.out, rfl, fun j h => by omega⟩, HB.out, HK.out⟩⟩
  case round =>
    clear HO HB HK
    obtain ⟨i, K, rfl, rfl, hK0, hK1, ⟨HE, HN, ⟨l', HO, HL, HM⟩, HB, HK⟩⟩ := hrel
    replace HE := Aside0.mk HE; replace HN := Aside0.mk HN; replace HL := Aside0.mk HL; replace HM := Aside0.mk HM; replace HB := Aside0.mk HB; replace HK := Aside0.mk HK
    by_cases hi : i < l.length
    · have hl1 : 1 ≤ 1 * (l.length - i : Nat) := by omega
      obtain ⟨g, rfl, hPg, hbg, cs, hcl, hM, hcc, hfr, hseg⟩ := R_open HO 0 i hi
      obtain rfl := hM
      have h0 := hcc 0 _ rfl; have f0 := hfr 0
      simp only [show (Kd.int .u8).sz = 1 from rfl, Nat.mul_one, Nat.add_zero] at h0 f0
      have seg0 := hseg [.int .u8 ((K) % 256)] ((K) % 256) (fun _ => False) 0 (show 0 + 1 ≤ 1 by omega) rfl (fun _ h => h.elim)
      simp only [show (Kd.int .u8).sz = 1 from rfl, Nat.mul_one, Nat.add_zero] at seg0; have seg := Aside0.mk seg0; clear seg0
      clear hcl hcc hfr hseg
      replace hPg := Aside0.mk hPg; replace hbg := Aside0.mk hbg; clear HO
      go_wp2
      go_roundg (gk - 1)
      case measure => have := HN.out; omega
      case rel =>
        have hE := HE.out; have hL := HL.out; have hMM := HM.out
        refine ⟨i + 1, K + 1, by go_num, rfl, by omega, by omega, ⟨by omega, by have := HN.out; omega, ⟨_, seg.out.1, by rw [List.length_set]; exact hL, fun j hj => ?_⟩, below_own HB.out seg.out.2 hbg.out, kept_own HK.out seg.out.2 hPg.out⟩⟩
        unfold nthu8_ at hMM ⊢
        rcases Nat.lt_succ_iff_lt_or_eq.1 hj with hj | rfl
        · rw [getD_set_ne _ _ _ _ _ (by omega)]; exact hMM j hj
        · rw [getD_set_eq _ _ _ _ (by omega)]; rw [← hE]; exact rfl
    · obtain rfl : i = l.length := by have := HN.out; omega
      have hE := HE.out
      go_wp2
      go_ret
      exact ⟨⟨l', by rw [hE]; simp, HO, HL.out, by unfold MarkedByteS; rw [HL.out]; exact HM.out⟩, HB.out, HK.out⟩
def cntLegS (l : List Leg) : Nat := 4 * l.length
def MarkedLeg (x : Leg) (k : Int) : Prop := x.shard = k ∧ x.account = k + 1 ∧ x.asset = k + 1 + 1 ∧ x.amount = k + 1 + 1 + 1
theorem MarkedLeg.eq {x : Leg} {k : Int} (h : MarkedLeg x k) : x = ⟨k, k + 1, k + 1 + 1, k + 1 + 1 + 1⟩ := by obtain ⟨h0, h1, h2, h3⟩ := h; cases x; simp_all
def MarkedLegS (l : List Leg) (k : Int) : Prop := ∀ i, i < l.length → MarkedLeg (nthLeg_ l i) (k + 4 * i)
set_option maxRecDepth 100000 in
set_option maxHeartbeats 800000 in
theorem markLegS (P : Nat → Prop) (v : Value) (l : List Leg) (k : Int) (w0 w : World) (hB : Below w0.heap.size w0 w) (ho : Kd.R kLeg 151 w w0.heap.size P v l) (hk0 : 0 ≤ k) (hk1 : k + cntLegS l ≤ 4611686018427387904) :
    Calls Try.prog 74 #[v, .int .i64 k] w fun e w' => (∃ l', e = .returned (.int .i64 (k + cntLegS l)) ∧ Kd.R kLeg 151 w' w0.heap.size P v l' ∧ l'.length = l.length ∧ MarkedLegS l' k) ∧ Below w0.heap.size w0 w' ∧ Kept w w' P := by
  unfold cntLegS at hk1 ⊢
  obtain ⟨A, c, rfl, hlc, hC⟩ := Kd.R_reads ho
  have HO := Aside0.mk ho; have HB := Aside0.mk hB; have HK := Aside0.mk (Kept.refl w P); clear ho hB hC
  go_enter Try.func74, Try.ntmps74
  go_wp2
  go_loopg [1, 5] l.length (fun n v1 v5 w' => ∃ (i : Nat) (K : Int), v5 = .int .i64 i ∧ v1 = .int .i64 K ∧ 0 ≤ K ∧ K + 4 * (l.length - i : Nat) ≤ 4611686018427387904 ∧ Aside0 (K = k + 4 * i ∧ n + i = l.length ∧ (∃ l', Kd.R kLeg 151 w' w0.heap.size P (.slice A l.length c) l' ∧ l'.length = l.length ∧ ∀ j, j < i → MarkedLeg (nthLeg_ l' j) (k + 4 * j)) ∧ Below w0.heap.size w0 w' ∧ Kept w w' P))
  case atStart => exact ⟨0, k, rfl, rfl, hk0, by omega, ⟨by omega, by omega, ⟨l, HO.out, rfl, fun j h => by omega⟩, HB.out, HK.out⟩⟩
  case round =>
    clear HO HB HK
    obtain ⟨i, K, rfl, rfl, hK0, hK1, ⟨HE, HN, ⟨l', HO, HL, HM⟩, HB, HK⟩⟩ := hrel
    replace HE := Aside0.mk HE; replace HN := Aside0.mk HN; replace HL := Aside0.mk HL; replace HM := Aside0.mk HM; replace HB := Aside0.mk HB; replace HK := Aside0.mk HK
    by_cases hi : i < l.length
    · have hl1 : 4 ≤ 4 * (l.length - i : Nat) := by omega
      obtain ⟨g, rfl, hPg, hbg, cs, hcl, hM, hcc, hfr, hseg⟩ := R_open HO zLeg i hi
      obtain rfl := kLeg_openM hM
      have h0 := hcc 0 _ rfl; have f0 := hfr 0; have h1 := hcc 1 _ rfl; have f1 := hfr 1; have h2 := hcc 2 _ rfl; have f2 := hfr 2; have h3 := hcc 3 _ rfl; have f3 := hfr 3
      simp only [show kLeg.sz = 4 from rfl, Nat.add_zero] at h0 f0 h1 f1 h2 f2 h3 f3
      have seg := Aside0.mk (hseg [.int .i64 (K), .int .i64 (K + 1), .int .i64 (K + 1 + 1), .int .i64 (K + 1 + 1 + 1)] ⟨K, K + 1, K + 1 + 1, K + 1 + 1 + 1⟩ (fun _ => False) 0 (show 0 + 4 ≤ 4 by omega) (kLeg_mkM _) (fun _ h => h.elim))
      clear hcl hM hcc hfr hseg
      replace hPg := Aside0.mk hPg; replace hbg := Aside0.mk hbg; clear HO
      go_wp2
      go_roundg (gk - 1)
      case measure => have := HN.out; omega
      case rel =>
        have hE := HE.out; have hL := HL.out; have hMM := HM.out
        refine ⟨i + 1, K + 1 + 1 + 1 + 1, by go_num, rfl, by omega, by omega, ⟨by omega, by have := HN.out; omega, ⟨_, seg.out.1, by rw [List.length_set]; exact hL, fun j hj => ?_⟩, below_own HB.out seg.out.2 hbg.out, kept_own HK.out seg.out.2 hPg.out⟩⟩
        unfold nthLeg_ at hMM ⊢
        rcases Nat.lt_succ_iff_lt_or_eq.1 hj with hj | rfl
        · rw [getD_set_ne _ _ _ _ _ (by omega)]; exact hMM j hj
        · rw [getD_set_eq _ _ _ _ (by omega)]; rw [← hE]; exact ⟨rfl, rfl, rfl, rfl⟩
    · obtain rfl : i = l.length := by have := HN.out; omega
      have hE := HE.out
      go_wp2
      go_ret
      exact ⟨⟨l', by rw [hE]; simp, HO, HL.out, by unfold MarkedLegS; rw [HL.out]; exact HM.out⟩, HB.out, HK.out⟩
def cntBalanceS (l : List Balance) : Nat := 3 * l.length
def MarkedBalance (x : Balance) (k : Int) : Prop := x.account = k ∧ x.asset = k + 1 ∧ x.amount = k + 1 + 1
theorem MarkedBalance.eq {x : Balance} {k : Int} (h : MarkedBalance x k) : x = ⟨k, k + 1, k + 1 + 1⟩ := by obtain ⟨h0, h1, h2⟩ := h; cases x; simp_all
def MarkedBalanceS (l : List Balance) (k : Int) : Prop := ∀ i, i < l.length → MarkedBalance (nthBalance_ l i) (k + 3 * i)
set_option maxRecDepth 100000 in
set_option maxHeartbeats 800000 in
theorem markBalanceS (P : Nat → Prop) (v : Value) (l : List Balance) (k : Int) (w0 w : World) (hB : Below w0.heap.size w0 w) (ho : Kd.R kBalance 110 w w0.heap.size P v l) (hk0 : 0 ≤ k) (hk1 : k + cntBalanceS l ≤ 4611686018427387904) :
    Calls Try.prog 35 #[v, .int .i64 k] w fun e w' => (∃ l', e = .returned (.int .i64 (k + cntBalanceS l)) ∧ Kd.R kBalance 110 w' w0.heap.size P v l' ∧ l'.length = l.length ∧ MarkedBalanceS l' k) ∧ Below w0.heap.size w0 w' ∧ Kept w w' P := by
  unfold cntBalanceS at hk1 ⊢
  obtain ⟨A, c, rfl, hlc, hC⟩ := Kd.R_reads ho
  have HO := Aside0.mk ho; have HB := Aside0.mk hB; have HK := Aside0.mk (Kept.refl w P); clear ho hB hC
  go_enter Try.func35, Try.ntmps35
  go_wp2
  go_loopg [1, 5] l.length (fun n v1 v5 w' => ∃ (i : Nat) (K : Int), v5 = .int .i64 i ∧ v1 = .int .i64 K ∧ 0 ≤ K ∧ K + 3 * (l.length - i : Nat) ≤ 4611686018427387904 ∧ Aside0 (K = k + 3 * i ∧ n + i = l.length ∧ (∃ l', Kd.R kBalance 110 w' w0.heap.size P (.slice A l.length c) l' ∧ l'.length = l.length ∧ ∀ j, j < i → MarkedBalance (nthBalance_ l' j) (k + 3 * j)) ∧ Below w0.heap.size w0 w' ∧ Kept w w' P))
  case atStart => exact ⟨0, k, rfl, rfl, hk0, by omega, ⟨by omega, by omega, ⟨l, HO.out, rfl, fun j h => by omega⟩, HB.out, HK.out⟩⟩
  case round =>
    clear HO HB HK
    obtain ⟨i, K, rfl, rfl, hK0, hK1, ⟨HE, HN, ⟨l', HO, HL, HM⟩, HB, HK⟩⟩ := hrel
    replace HE := Aside0.mk HE; replace HN := Aside0.mk HN; replace HL := Aside0.mk HL; replace HM := Aside0.mk HM; replace HB := Aside0.mk HB; replace HK := Aside0.mk HK
    by_cases hi : i < l.length
    · have hl1 : 3 ≤ 3 * (l.length - i : Nat) := by omega
      obtain ⟨g, rfl, hPg, hbg, cs, hcl, hM, hcc, hfr, hseg⟩ := R_open HO zBalance i hi
      obtain rfl := kBalance_openM hM
      have h0 := hcc 0 _ rfl; have f0 := hfr 0; have h1 := hcc 1 _ rfl; have f1 := hfr 1; have h2 := hcc 2 _ rfl; have f2 := hfr 2
      simp only [show kBalance.sz = 3 from rfl, Nat.add_zero] at h0 f0 h1 f1 h2 f2
      have seg := Aside0.mk (hseg [.int .i64 (K), .int .i64 (K + 1), .int .i64 (K + 1 + 1)] ⟨K, K + 1, K + 1 + 1⟩ (fun _ => False) 0 (show 0 + 3 ≤ 3 by omega) (kBalance_mkM _) (fun _ h => h.elim))
      clear hcl hM hcc hfr hseg
      replace hPg := Aside0.mk hPg; replace hbg := Aside0.mk hbg; clear HO
      go_wp2
      go_roundg (gk - 1)
      case measure => have := HN.out; omega
      case rel =>
        have hE := HE.out; have hL := HL.out; have hMM := HM.out
        refine ⟨i + 1, K + 1 + 1 + 1, by go_num, rfl, by omega, by omega, ⟨by omega, by have := HN.out; omega, ⟨_, seg.out.1, by rw [List.length_set]; exact hL, fun j hj => ?_⟩, below_own HB.out seg.out.2 hbg.out, kept_own HK.out seg.out.2 hPg.out⟩⟩
        unfold nthBalance_ at hMM ⊢
        rcases Nat.lt_succ_iff_lt_or_eq.1 hj with hj | rfl
        · rw [getD_set_ne _ _ _ _ _ (by omega)]; exact hMM j hj
        · rw [getD_set_eq _ _ _ _ (by omega)]; rw [← hE]; exact ⟨rfl, rfl, rfl⟩
    · obtain rfl : i = l.length := by have := HN.out; omega
      have hE := HE.out
      go_wp2
      go_ret
      exact ⟨⟨l', by rw [hE]; simp, HO, HL.out, by unfold MarkedBalanceS; rw [HL.out]; exact HM.out⟩, HB.out, HK.out⟩
end Go.Proofs.Ytjlhdhbnaagajaa.J
