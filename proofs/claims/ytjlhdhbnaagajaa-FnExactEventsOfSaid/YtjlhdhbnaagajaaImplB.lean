/- The program's bytes. -/
import Derived.Test.YtjlhdhbnaagajaaImplP
import Derived.Test.YtjlhdhbnaagajaaImplA
import Derived.Test.YtjlhdhbnaagajaaTo
import Derived.Lib.SliceRun
namespace Go.Proofs.Ytjlhdhbnaagajaa.J
open Go.RowKit Go.Proofs.YtjlhdhbnaagajaaW.PrintWords Go.Proofs.YtjlhdhbnaagajaaW.PrintLast Go.Proofs.YtjlhdhbnaagajaaW.PrintMore
set_option linter.unusedVariables false
set_option linter.unusedSimpArgs false

theorem u8_inj {x y : Int} (hx : 0 ≤ x ∧ x < 256) (hy : 0 ≤ y ∧ y < 256) (h : UInt8.ofNat x.toNat = UInt8.ofNat y.toNat) : x = y := by
  have h1 := congrArg UInt8.toNat h
  simp only [UInt8.toNat_ofNat'] at h1
  omega
theorem Bytes.tail {x : Int} {r : List Int} (h : Bytes (x :: r)) : Bytes r := fun i => by have := h (i + 1); simpa [nthu8_] using this
theorem Bytes.head {x : Int} {r : List Int} (h : Bytes (x :: r)) : 0 ≤ x ∧ x < 256 := by have := h 0; simpa [nthu8_] using this
theorem Bytes.nil : Bytes [] := fun i => by simp [nthu8_]
theorem Bytes.cons {x : Int} {r : List Int} (hx : 0 ≤ x ∧ x < 256) (h : Bytes r) : Bytes (x :: r) := fun i => by
  cases i with
  | zero => simpa [nthu8_] using hx
  | succ i => have := h i; simpa [nthu8_] using this
theorem strOf_eq (a : List Int) : ∀ b, Bytes a → Bytes b → a.map (fun n => UInt8.ofNat n.toNat) = b.map (fun n => UInt8.ofNat n.toNat) → a = b := by
  induction a with
  | nil => intro b _ _ h; cases b with
    | nil => rfl
    | cons y s => simp at h
  | cons x r ih => intro b ha hb h; cases b with
    | nil => simp at h
    | cons y s =>
      simp only [List.map_cons, List.cons.injEq] at h
      rw [u8_inj ha.head hb.head h.1, ih s ha.tail hb.tail h.2]
theorem strOf_beq (a b : List Int) (ha : Bytes a) (hb : Bytes b) : ((strOfNums a).data.toList == (strOfNums b).data.toList) = decide (a = b) := by
  rw [Bool.eq_iff_iff, beq_iff_eq, decide_eq_true_eq, strOfNums_data, strOfNums_data]
  exact ⟨strOf_eq a b ha hb, fun h => by rw [h]⟩
theorem strOf_beq' (a b : List Int) (ha : Bytes a) (hb : Bytes b) : ((strOfNums a).toList == (strOfNums b).toList) = decide (a = b) := by
  have e : ∀ s : ByteArray, s.toList = s.data.toList := fun s => ByteArray.toList_eq s
  rw [e, e]; exact strOf_beq a b ha hb
set_option maxRecDepth 100000 in
theorem bytes_Equal (A0 : Option Addr) (c0 : Nat) (l0 : List Int) (A1 : Option Addr) (c1 : Nat) (l1 : List Int) (w : World) (hr0 : Kd.C (Kd.int .u8) w A0 l0.length l0) (hr1 : Kd.C (Kd.int .u8) w A1 l1.length l1) (hy0 : Bytes l0) (hy1 : Bytes l1) :
    Calls Try.prog 68 #[.slice A0 l0.length c0, .slice A1 l1.length c1] w fun e w' => e = .returned (.bool (decide (l0 = l1))) ∧ w = w' := by
  have HS := Aside0.mk (strOf_beq' l0 l1 hy0 hy1)
  have hcv3 := Kd.C_string (P := Try.prog) (A := A0) (c := c0) Try.underlying23 Try.underlying5 Try.underlying9 hr0
  have hcv4 := Kd.C_string (P := Try.prog) (A := A1) (c := c1) Try.underlying23 Try.underlying5 Try.underlying9 hr1
  clear hr0 hr1 hy0 hy1
  go_enter Try.func68, Try.ntmps68
  go_wp2
  go_ret
  rw [← HS.out]
  exact ⟨by first | rfl | (simp; done), rfl⟩
set_option maxRecDepth 100000 in
theorem impl_pair (n : Int) (w : World) : Calls Try.prog 134 #[.int .i64 n] w fun e w' => (∃ v, e = .returned v ∧ Kd.R (Kd.int .u8) 5 w' w.heap.size (fun _ => True) v (pairOf n)) ∧ Below w.heap.size w w' := by
  go_enter Try.func134, Try.ntmps134
  go_wp2_with (first | ((with_reducible refine gate_dst (N := 8) rfl ?_); refine Kd.R_lit (Kd.int .u8) _ 5 ?hg (N := 8) ?hd (xs := pairOf n) (inner := [.int .u8 (n / 256 % 256), .int .u8 (n % 256)]) (ok := fun _ => True) (okp := fun _ => True) ?hr ?hp (fun _ hk => hk) trivial (Below.refl _ _) (Nat.le_refl _) (by simp [pairOf]) ?_; (case hd => rfl); (case hg => rfl); (case hr => first | (go_simp; done) | (go_simp; rfl)); (case hp => exact (Reps.one (show Kd.M (Kd.int .u8) _ _ _ (n / 256 % 256) [.int .u8 (n / 256 % 256)] from rfl) (Reps.one (show Kd.M (Kd.int .u8) _ _ _ (n % 256) [.int .u8 (n % 256)] from rfl) (Reps.none _ _)))); intro v1 w1 ho hb hg_ hnew_; have HO := Aside0.mk ho; have HB := Aside0.mk hb; clear hg_ hnew_ ho hb))
  go_ret
  exact ⟨⟨_, rfl, HO.out⟩, HB.out⟩
set_option maxRecDepth 100000 in
set_option maxHeartbeats 800000 in
theorem impl_UnpackNumber (A : Option Addr) (c : Nat) (l : List Int) (w : World) (hC : Kd.C (Kd.int .u8) w A l.length l) (hl : l.length = 8) (hb : Bytes l) : Calls Try.prog 66 #[.slice A l.length c] w fun e w' => e = .returned (.agg #[.int .i64 0, .int .i64 (signed (number l))]) ∧ Below w.heap.size w w' := by
  have HC := Aside0.mk hC; have HY := Aside0.mk hb; have HL := Aside0.mk hl
  have hu := Try.underlying120
  have t8 : ((l.length : Int) != 8) = false := by simp; omega
  have h8 : l.length ≤ 8 := by omega
  have h8' : 8 ≤ l.length := by omega
  clear hC hb hl
  go_enter Try.func66, Try.ntmps66
  go_wp2
  go_loopg [3, 12] l.length (fun n v3 v4 w' => ∃ (i : Nat) (h : Int), v4 = .int .i64 i ∧ v3 = .int .u64 h ∧ i ≤ 8 ∧ Aside0 (n + i = l.length ∧ h = number (l.take i) ∧ w'.heap[w.heap.size]? = some (.cells #[.int .i64 0, .int .i64 0] 120 (0, 0)) ∧ Below w.heap.size w w'))
  case atStart => exact ⟨0, 0, rfl, rfl, by omega, ⟨by omega, by simp [number], blk_new _ _, below_alloc (Below.refl _ _) _⟩⟩
  case round =>
    obtain ⟨i, h, rfl, rfl, h8a, ⟨HN, HH, BK, HB⟩⟩ := hrel
    replace HN := Aside0.mk HN; replace HH := Aside0.mk HH; replace BK := Aside0.mk BK; replace HB := Aside0.mk HB
    by_cases hi : i < l.length
    · obtain ⟨ad, e0, x0⟩ := nthu8 HC.out i (by omega)
      subst e0
      have x1 := x0 _ HB.out
      clear x0
      have b0 := (HY.out i).1; have b1 := (HY.out i).2
      have hbd := number_bd8 l HY.out i (by omega) HL.out
      rw [← HH.out] at hbd
      obtain ⟨d0, d1⟩ := hbd
      go_wp2
      go_roundg (gk - 1)
      case measure => have := HN.out; omega
      case rel => exact ⟨i + 1, _, by go_num, rfl, by omega, ⟨by have := HN.out; omega, by rw [take_succ_u8 l i (by omega), number_snoc, HH.out], BK.out, HB.out⟩⟩
    · have hbd := number_bd l HY.out i (by omega)
      have h7 : i = 8 := by omega
      rw [← HH.out] at hbd
      have hs : IntKind.i64.wrap h = signed h := signed_wrap h hbd.1 (by have := hbd.2; rw [h7] at this; omega)
      have HHN : Aside0 (h = number l) := ⟨by rw [HH.out, List.take_of_length_le (by omega)]⟩
      clear hbd h7
      have hc0 := (blk_cell BK.out 0).trans rfl
      have hc1 := (blk_cell BK.out 1).trans rfl
      have hf0 := blk_frozen BK.out 0
      have hf1 := blk_frozen BK.out 1
      go_wp2
      refine bodyPost_ret (results_cell_row rfl _ _ w.heap.size 120 #[.int .i64 0, .int .i64 (signed h)] (0, 0) _ rfl (blk_put (cs := #[.int .i64 0, .int .i64 0]) (cs' := #[.int .i64 0, .int .i64 (signed h)]) (blk_put (cs := #[.int .i64 0, .int .i64 0]) (cs' := #[.int .i64 0, .int .i64 0]) BK.out 0 _ rfl) 1 _ rfl) Try.underlying120 rfl (by kernel_rfl)) rfl ?_
      exact ⟨by rw [HHN.out], below_set (below_set HB.out (Nat.le_refl _)) (Nat.le_refl _)⟩
theorem pack_step (n : Int) (i : Nat) (h : i < 8) : ((packNum n).take i ++ List.replicate (8 - i) 0).set i (n / 256 ^ (7 - i) % 256) = (packNum n).take (i + 1) ++ List.replicate (8 - (i + 1)) 0 := by
  have : i = 0 ∨ i = 1 ∨ i = 2 ∨ i = 3 ∨ i = 4 ∨ i = 5 ∨ i = 6 ∨ i = 7 := by omega
  rcases this with rfl | rfl | rfl | rfl | rfl | rfl | rfl | rfl <;> simp [packNum_eq, List.replicate]
theorem pack_pow (n : Int) (i : Nat) (h : i < 8) : n / 2 ^ (56 - 8 * i) = n / 256 ^ (7 - i) := by
  have : i = 0 ∨ i = 1 ∨ i = 2 ∨ i = 3 ∨ i = 4 ∨ i = 5 ∨ i = 6 ∨ i = 7 := by omega
  rcases this with rfl | rfl | rfl | rfl | rfl | rfl | rfl | rfl <;> rfl
set_option maxRecDepth 100000 in
set_option maxHeartbeats 800000 in
theorem impl_PackNumber (n : Int) (w : World) : Calls Try.prog 114 #[.int .i64 n] w fun e w' => (∃ v, e = .returned v ∧ Kd.R (Kd.int .u8) 5 w' w.heap.size (fun _ => True) v (packNum n)) ∧ Below w.heap.size w w' := by
  have HB := Aside0.mk (Below.refl w.heap.size w)
  go_enter Try.func114, Try.ntmps114
  go_wp2_with (first | ((with_reducible refine gate_dst (N := 5) rfl ?_); refine Kd.R_make (Kd.int .u8) _ 5 rfl (N := 5) rfl 23 _ _ rfl 8 rfl rfl Try.underlying23 (.int .u8 0) 1 infou8 rfl (by decide) (by omega) 0 (ok := fun _ => True) (okp := fun _ => True) rfl (fun _ hk => hk) trivial (by omega) (by omega) (Below.refl _ _) (Nat.le_refl _) ?_; intro v1 w1 ho hb hg_ hnew_; obtain ⟨Ao, co, eo⟩ := Kd.R_slice ho; subst eo; have HO := Aside0.mk ho; have HB := Aside0.mk hb; clear hg_ hnew_ ho hb; simp only [Int.reduceToNat, List.length_replicate] at HO ⊢))
  go_loopg [8] 8 (fun m v8 w' => ∃ (i : Nat), v8 = .int .i64 i ∧ i ≤ 8 ∧ Aside0 (m + i = 8 ∧ Kd.R (Kd.int .u8) 5 w' w.heap.size (fun _ => True) (.slice Ao 8 co) ((packNum n).take i ++ List.replicate (8 - i) 0) ∧ Below w.heap.size w w'))
  case atStart => exact ⟨0, rfl, by omega, ⟨by omega, HO.out, HB.out⟩⟩
  case round =>
    clear HB HO
    obtain ⟨i, rfl, hi8, ⟨HN, HO, HB⟩⟩ := hrel
    replace HN := Aside0.mk HN; replace HO := Aside0.mk HO; replace HB := Aside0.mk HB
    by_cases hi : i < 8
    · have hlx : ((packNum n).take i ++ List.replicate (8 - i) 0).length = 8 := by simp [packNum_len]; omega
      obtain ⟨X, hX⟩ : ∃ X, X = (packNum n).take i ++ List.replicate (8 - i) 0 := ⟨_, rfl⟩
      have hst := pack_step n i hi
      rw [← hX] at HO hlx hst
      have HST := Aside0.mk hst
      obtain ⟨go, c1, eo, gb, gl, HG⟩ := Kd.R_form HO.out (by omega)
      injection eo with ea en ec
      subst ea; subst ec
      have GB := Aside0.mk gb
      obtain ⟨hx0, hf0⟩ := Kd.R_celln 0 HO.out (i : Int) (by omega) (by omega)
      have HP := Kd.R_putg (xs := X) (show (Kd.int .u8).R 5 wr w.heap.size (fun _ => True) (.slice (some ⟨go, 0, none⟩) X.length co) X from by rw [hlx]; exact HO.out) (i : Int) (n / 256 ^ (7 - i) % 256)
      simp only [Int.toNat_natCast, hlx] at HP hx0 hf0
      rw [HST.out] at HP
      have HP1 := Aside0.mk HP
      have hiI : (i : Int) < 8 := by omega
      have h0I : (0 : Int) ≤ i := by omega
      clear HG gb gl hst hX hlx HP en
      go_wp2
      go_roundg (gk - 1)
      case measure => have := HN.out; omega
      case rel => exact ⟨i + 1, by go_num, by omega, ⟨by have := HN.out; omega, by rw [pack_pow n i hi]; exact HP1.out.1, below_set HB.out GB.out⟩⟩
    · obtain rfl : i = 8 := by omega
      have HF := HO.out
      simp only [Nat.sub_self, List.replicate_zero, List.append_nil] at HF
      rw [List.take_of_length_le (by rw [packNum_len]; omega)] at HF
      replace HO := Aside0.mk HF
      clear HF
      go_wp2
      go_ret
      exact ⟨⟨_, rfl, HO.out⟩, HB.out⟩
set_option maxRecDepth 100000 in
set_option maxHeartbeats 800000 in
theorem bytes_Clone (A : Option Addr) (c : Nat) (l : List Int) (w : World) (hC : Kd.C (Kd.int .u8) w A l.length l) (hl : l.length ≤ 1099511627776) : Calls Try.prog 108 #[.slice A l.length c] w fun e w' => (∃ v, e = .returned v ∧ Kd.R (Kd.int .u8) 5 w' w.heap.size (fun _ => True) v l) ∧ Below w.heap.size w w' := by
  have HC := Aside0.mk hC; clear hC
  have HB := Aside0.mk (Below.refl w.heap.size w)
  cases A with
  | none =>
    have hl0 : l = [] := by
      cases l with
      | nil => rfl
      | cons x r => obtain ⟨ad, e, _⟩ := nthu8 HC.out 0 (by simp); cases e
    subst hl0
    have hq : ∀ W : World, (binOp .eql 23 (.slice none 0 c) (.slice none 0 0)).run Try.prog W = .ok (.bool true) W := fun W => Lib.run_eql_slice_nil W _ _ _ _ _ _ _ Try.underlying23
    go_enter Try.func108, Try.ntmps108
    go_wp2
    go_ret
    exact ⟨⟨_, rfl, Kd.R_nil _ _ _ _ _⟩, by (repeat (first | (with_reducible exact HB.out) | (with_reducible refine below_alloc ?_ _) | (with_reducible refine below_drew1 ?_) | (with_reducible refine pw_below_drewN ?_ _)))⟩
  | some ad =>
    have hq : ∀ W : World, (binOp .eql 23 (.slice (some ad) l.length c) (.slice none 0 0)).run Try.prog W = .ok (.bool false) W := fun W => Lib.run_eql_slice_nil W _ _ _ _ _ _ _ Try.underlying23
    go_enter Try.func108, Try.ntmps108
    go_wp2_with (first | ((with_reducible refine gate_dst (N := 5) rfl ?_); go_must (refine Kd.R_lit (Kd.int .u8) w.heap.size 5 ?hg (N := 5) ?hd (xs := ([] : List Int)) (inner := []) (ok := fun _ => True) (okp := fun _ => True) ?hr ?hp (fun _ hk => hk) trivial (Below.refl _ _) (Nat.le_refl _) (by simp) ?_; (case hd => rfl); (case hg => rfl); (case hr => first | (go_simp; done) | (go_simp; rfl)); (case hp => exact (Reps.none _ _)); intro vL w2 ho hb hg_ hnew_; clear hg_ hnew_ HB; have HO := Aside0.mk ho; have HB := Aside0.mk hb; clear ho hb)) | ((with_reducible refine gate_builtin (b := .append) (xs := #[.tmp 5, .tmp 6]) rfl ?_); at_builtin; go_must (refine Kd.R_append_rows (Kd.int .u8) (w0 := w) w.heap.size rfl (.tmp 5) (.tmp 6) 23 5 (.int .u8 0) 1 rfl Try.underlying23 infou8 rfl (by decide) (by omega) vL ([] : List Int) l _ _ _ (fun _ => True) (fun _ => False) rfl rfl ?aO ?aR (fun _ _ h => h) (fun _ h => h.elim) (fun _ _ => trivial) ?aB ?aS ?aL ?_; (case aR => exact Kd.C_below HC.out HB.out); (case aB => exact HB.out); (case aO => exact HO.out); (case aS => exact HB.out.size); (case aL => simp; omega); intro vR w3 ho hb hg hat; rw [List.nil_append] at ho; have HO1 := Aside0.mk ho; have HB1 := Aside0.mk hb; clear hg hat ho hb)))
    go_ret
    exact ⟨⟨_, rfl, HO1.out⟩, HB1.out⟩

end Go.Proofs.Ytjlhdhbnaagajaa.J
