/- The program's unpackEvent. -/
import Derived.Test.YtjlhdhbnaagajaaImplI
import Derived.Test.YtjlhdhbnaagajaaImplJ
import Derived.Test.YtjlhdhbnaagajaaSpecG
namespace Go.Proofs.Ytjlhdhbnaagajaa.J
open Go.RowKit Go.Proofs.YtjlhdhbnaagajaaW.PrintWords Go.Proofs.YtjlhdhbnaagajaaW.PrintLast Go.Proofs.YtjlhdhbnaagajaaW.PrintMore
set_option linter.unusedVariables false
set_option linter.unusedSimpArgs false
def impl_unpackEvent_R7.T : Bool × List (List Nat × List Nat) := (true, [([], []), ([], []), ([1], [1]), ([2], [2]), ([3, 2], [3]), ([4], [4]), ([5, 4, 4], [4, 5]), ([4], [4]), ([6, 7, 6, 4], [4, 6, 7]), ([4, 8], [4, 8]), ([0, 8, 0], [0]), ([9, 10, 0, 1, 2, 3, 4, 5, 6, 7, 8, 9, 10], [9])])
def impl_unpackEvent_R7.B : List Nat := [0, 0, 2, 6, 14, 30, 62, 30, 254, 510, 511, 2047]
theorem impl_unpackEvent_R7.tab : rtab .any (opsOf Try.f30 7) = impl_unpackEvent_R7.T := by kernel_rfl
theorem impl_unpackEvent_R7.bits : waitsOk impl_unpackEvent_R7.T.2 impl_unpackEvent_R7.B = true := by kernel_rfl
def impl_unpackEvent_R6.T : Bool × List (List Nat × List Nat) := (true, [([], []), ([0], [0]), ([1], [1]), ([2], [2]), ([3], [3]), ([], []), ([5], [5]), ([6], [6]), ([7], [7]), ([4, 8], [4, 8]), ([9, 2, 0, 1, 2, 3, 4, 5, 6, 7, 8, 9], [9])])
def impl_unpackEvent_R6.B : List Nat := [0, 1, 3, 7, 15, 0, 32, 96, 224, 511, 1023]
theorem impl_unpackEvent_R6.tab : rtab .any (opsOf Try.f30 6) = impl_unpackEvent_R6.T := by kernel_rfl
theorem impl_unpackEvent_R6.bits : waitsOk impl_unpackEvent_R6.T.2 impl_unpackEvent_R6.B = true := by kernel_rfl

theorem drop_bytes {l : List Int} (h : Bytes l) (i : Nat) : Bytes (l.drop i) := fun k => by rw [nth_drop]; exact h _
set_option maxRecDepth 100000 in
set_option maxHeartbeats 3200000 in
theorem impl_unpackEvent_a (A : Option Addr) (c : Nat) (l : List Int) (w : World) (hC : Kd.C (Kd.int .u8) w A l.length l) (hlc : l.length ≤ c) (hb : Bytes l) (h0 : l.length = 0) : Calls Try.prog 30 #[.slice A l.length c] w fun e w' => (∃ (x : Event) (v : Value), e = .returned (.tuple #[.agg #[.bool x.vote, .int .i64 x.contract.id, v, .int .i64 x.outcome], .bool (evOk l)]) ∧ (evOk l = true → x = evOf l) ∧ Kd.R kLeg 151 w' w.heap.size (fun _ => True) v x.contract.legs) ∧ Below w.heap.size w w' := by
  have HC := Aside0.mk hC; have HY := Aside0.mk hb; clear hC hb
  have HB := Aside0.mk (Below.refl w.heap.size w)
  have hu := Try.underlying75
  have hv := Try.underlying77
  have hcr := Try.underlying117
  have HEV : Aside0 (evOk l = false) := ⟨by simp [evOk, h0]⟩
  have t0 : (eventFault (⟨false, ⟨0, []⟩, 0⟩ : Event) == 0) = false := by decide
  have HLN : Aside0 ((⟨false, ⟨0, []⟩, 0⟩ : Event).contract.legs.length ≤ 8) := ⟨by simp⟩
  have hdl : (⟨false, ⟨0, []⟩, 0⟩ : Event).contract.legs.length ≤ 0 := by simp
  go_enter Try.func30, Try.ntmps30
  go_wp2
  have BR6 := Aside0.mk (blk_alloc (blk_new w (Obj.cells #[Value.bool false, Value.int IntKind.i64 0, Value.slice none 0 0, Value.int IntKind.i64 0] 77)) (Obj.cells #[Value.bool false, Value.int IntKind.i64 0, Value.slice none 0 0, Value.int IntKind.i64 0] 77))
  have BC6 := Aside0.mk (blk_new1 w (Obj.cells #[Value.bool false, Value.int IntKind.i64 0, Value.slice none 0 0, Value.int IntKind.i64 0] 77) (Obj.cells #[Value.bool false, Value.int IntKind.i64 0, Value.slice none 0 0, Value.int IntKind.i64 0] 77))
  have HB6 := Aside0.mk (below_alloc (below_alloc (Below.refl w.heap.size w) (Obj.cells #[Value.bool false, Value.int IntKind.i64 0, Value.slice none 0 0, Value.int IntKind.i64 0] 77)) (Obj.cells #[Value.bool false, Value.int IntKind.i64 0, Value.slice none 0 0, Value.int IntKind.i64 0] 77))
  have HO6 : Aside0 (Kd.R kLeg 151 ((w.alloc (Obj.cells #[Value.bool false, Value.int IntKind.i64 0, Value.slice none 0 0, Value.int IntKind.i64 0] 77)).alloc (Obj.cells #[Value.bool false, Value.int IntKind.i64 0, Value.slice none 0 0, Value.int IntKind.i64 0] 77)) w.heap.size (fun q => w.heap.size + 2 ≤ q) (.slice none 0 0) (⟨false, ⟨0, []⟩, 0⟩ : Event).contract.legs) := ⟨Kd.R_nil _ _ _ _ _⟩
  have HCL : Aside0 (kLeg.C ((w.alloc (Obj.cells #[Value.bool false, Value.int IntKind.i64 0, Value.slice none 0 0, Value.int IntKind.i64 0] 77)).alloc (Obj.cells #[Value.bool false, Value.int IntKind.i64 0, Value.slice none 0 0, Value.int IntKind.i64 0] 77)) none (⟨false, ⟨0, []⟩, 0⟩ : Event).contract.legs.length (⟨false, ⟨0, []⟩, 0⟩ : Event).contract.legs) := ⟨Kd.C_nil _ _⟩
  generalize (w.alloc (Obj.cells #[Value.bool false, Value.int IntKind.i64 0, Value.slice none 0 0, Value.int IntKind.i64 0] 77)).alloc (Obj.cells #[Value.bool false, Value.int IntKind.i64 0, Value.slice none 0 0, Value.int IntKind.i64 0] 77) = W6 at BR6 BC6 HB6 HO6 HCL ⊢
  refine start_ (n := 12) (S := fun w' => w'.cell? ⟨w.heap.size + 1, 0, none⟩ = some (Value.bool false) ∧ w'.cell? ⟨w.heap.size + 1, 1, none⟩ = some (Value.int IntKind.i64 0) ∧ w'.cell? ⟨w.heap.size + 1, 2, none⟩ = some (Value.slice none 0 0) ∧ w'.cell? ⟨w.heap.size + 1, 3, none⟩ = some (Value.int IntKind.i64 0)) (ds := [10]) #[false, false, false, false, false, false, false, false, false, false, false, false] (by kernel_rfl) rfl rfl ⟨(blk_cell (blk_drew BC6.out) 0).trans rfl, (blk_cell (blk_drew BC6.out) 1).trans rfl, (blk_cell (blk_drew BC6.out) 2).trans rfl, (blk_cell (blk_drew BC6.out) 3).trans rfl⟩ (fun hHeld => ?_)
  refine with_tabW impl_unpackEvent_R7.tab impl_unpackEvent_R7.bits (fun HT_ HW_ => ?_)
  refine take_ (i := 0) (N := some 43) (v := ?_) (a' := ?_) #[true, false, false, false, false, false, false, false, false, false, false, false] rfl rfl (take_ofW HT_.out HW_.out (by kernel_rfl)) (fun _ _ _ h => h) (Or.inl ⟨by rfl, ?_⟩) hHeld ?_ ?_
  rotate_left
  · rintro w' ⟨s0, s1, s2, s3⟩
    go_simp
    with_reducible rfl
  rotate_left
  · simp only [Act.put, List.setIfInBounds_toArray, List.set_cons_zero, List.set_cons_succ]
    rfl
  refine take_ (i := 1) (N := some 44) (v := ?_) (a' := ?_) #[true, true, false, false, false, false, false, false, false, false, false, false] rfl rfl (take_ofW HT_.out HW_.out (by kernel_rfl)) (fun _ _ _ h => h) (Or.inl ⟨by rfl, ?_⟩) hHeld ?_ ?_
  rotate_left
  · rintro w' ⟨s0, s1, s2, s3⟩
    go_simp
    with_reducible rfl
  rotate_left
  · simp only [Act.put, List.setIfInBounds_toArray, List.set_cons_zero, List.set_cons_succ]
    rfl
  refine one_ (i := 2) (N := some 45) #[true, true, true, false, false, false, false, false, false, false, false, false] rfl rfl (one_of HT_.out (by kernel_rfl)) (by decide) (fun K hK => ?_)
  refine goes_ Try.func67 (by kernel_rfl) rfl #[.agg #[Value.bool false, Value.int IntKind.i64 0, Value.slice none 0 0, Value.int IntKind.i64 0]] (by rfl) rfl rfl (by (try simp only [List.map_toArray, List.map_cons, List.map_nil]); first | done | rfl) ?_
  refine (impl_EventFault (⟨false, ⟨0, []⟩, 0⟩ : Event) _ _ (kEvent_mk (⟨false, ⟨0, []⟩, 0⟩ : Event) hdl (Kd.C_drew HCL.out)) (Nat.le_trans HLN.out (by decide))).mono ?_
  rintro e W7 ⟨rfl, hbw⟩
  have BR7 := Aside0.mk (blk_below (blk_drew BR6.out) hbw)
  have BC7 := Aside0.mk (blk_below (blk_drew BC6.out) hbw)
  have HO7 := Aside0.mk (Kd.R_below (Kd.R_drew HO6.out) hbw)
  have HB7 := Aside0.mk (below_step (below_drew1 HB6.out) hbw)
  have HCL7 := Aside0.mk (Kd.C_below (Kd.C_drew HCL.out) hbw)
  have hz7 : w.heap.size + 1 < W7.heap.size := blk_lt BC7.out
  have hz7b : w.heap.size < W7.heap.size := blk_lt BR7.out
  clear hbw
  refine ⟨_, rfl, ?_⟩
  refine hK.out _ _ ⟨(blk_cell BC7.out 0).trans rfl, (blk_cell BC7.out 1).trans rfl, (blk_cell BC7.out 2).trans rfl, (blk_cell BC7.out 3).trans rfl⟩ (fun hHeld => ?_)
  clear hK K
  refine norm_ (a' := ?_) ?_ ?_
  rotate_left
  · show Act.put _ (some 45) _ = _
    simp only [Act.put, List.setIfInBounds_toArray, List.set_cons_zero, List.set_cons_succ]
    rfl
  refine pure_ (i := 3) (N := some 46) (v := ?_) (a' := ?_) #[true, true, true, true, false, false, false, false, false, false, false, false] rfl rfl (any_of HT_.out (by kernel_rfl)) (fun _ _ _ h => h) (Or.inl ⟨by rfl, ?_⟩) ?_ ?_
  rotate_left
  · intro w'
    go_simp
    with_reducible rfl
  rotate_left
  · simp only [Act.put, List.setIfInBounds_toArray, List.set_cons_zero, List.set_cons_succ]
    rfl
  refine pure_ (i := 4) (N := some 47) (v := ?_) (a' := ?_) #[true, true, true, true, true, false, false, false, false, false, false, false] rfl rfl (any_of HT_.out (by kernel_rfl)) (fun _ _ _ h => h) (Or.inl ⟨by rfl, ?_⟩) ?_ ?_
  rotate_left
  · intro w'
    go_simp
    with_reducible rfl
  rotate_left
  · simp only [Act.put, List.setIfInBounds_toArray, List.set_cons_zero, List.set_cons_succ]
    rfl
  refine pure_ (i := 7) (N := some 50) (v := undef) (a' := ?_) #[true, true, true, true, true, false, false, true, false, false, false, false] rfl rfl (any_of HT_.out (by kernel_rfl)) (fun _ _ _ h => h) (Or.inr ⟨by rfl, rfl⟩) ?_ ?_
  rotate_left
  · simp only [Act.put, List.setIfInBounds_toArray, List.set_cons_zero, List.set_cons_succ]
    rfl
  refine take_ (i := 5) (N := some 48) (v := undef) (a' := ?_) #[true, true, true, true, true, true, false, true, false, false, false, false] rfl rfl (take_ofW HT_.out HW_.out (by kernel_rfl)) (fun _ _ _ h => h) (Or.inr ⟨by rfl, rfl⟩) hHeld ?_ ?_
  rotate_left
  · simp only [Act.put, List.setIfInBounds_toArray, List.set_cons_zero, List.set_cons_succ]
    rfl
  refine one_ (i := 6) (N := some 49) #[true, true, true, true, true, true, true, true, false, false, false, false] rfl rfl (one_of HT_.out (by kernel_rfl)) (by decide) (fun K hK => ?_)
  refine off_ (by rfl) ?_
  refine hK.out _ _ ⟨(blk_cell BC7.out 0).trans rfl, (blk_cell BC7.out 1).trans rfl, (blk_cell BC7.out 2).trans rfl, (blk_cell BC7.out 3).trans rfl⟩ (fun hHeld => ?_)
  clear hK K
  refine norm_ (a' := ?_) ?_ ?_
  rotate_left
  · show Act.put _ (some 49) _ = _
    simp only [Act.put, List.setIfInBounds_toArray, List.set_cons_zero, List.set_cons_succ]
    rfl
  refine one_ (i := 8) (N := some 51) #[true, true, true, true, true, true, true, true, true, false, false, false] rfl rfl (one_of HT_.out (by kernel_rfl)) (by decide) (fun K hK => ?_)
  refine off_ (by rfl) ?_
  refine hK.out _ _ ⟨(blk_cell BC7.out 0).trans rfl, (blk_cell BC7.out 1).trans rfl, (blk_cell BC7.out 2).trans rfl, (blk_cell BC7.out 3).trans rfl⟩ (fun hHeld => ?_)
  clear hK K
  refine norm_ (a' := ?_) ?_ ?_
  rotate_left
  · show Act.put _ (some 51) _ = _
    simp only [Act.put, List.setIfInBounds_toArray, List.set_cons_zero, List.set_cons_succ]
    rfl
  refine pure_ (i := 9) (N := some 52) (v := ?_) (a' := ?_) #[true, true, true, true, true, true, true, true, true, true, false, false] rfl rfl (any_of HT_.out (by kernel_rfl)) (fun _ _ _ h => h) (Or.inl ⟨by rfl, ?_⟩) ?_ ?_
  rotate_left
  · intro w'
    go_simp
    with_reducible rfl
  rotate_left
  · simp only [Act.put, List.setIfInBounds_toArray, List.set_cons_zero, List.set_cons_succ]
    rfl
  refine last_ (i := 10) (N := none) #[true, true, true, true, true, true, true, true, true, true, true, false] rfl rfl (one_of HT_.out (by kernel_rfl)) (by decide) (fun K hK => ?_)
  have hr0 := (blk_cell BR7.out 0).trans rfl
  have hr1 := (blk_cell BR7.out 1).trans rfl
  have hr2 := (blk_cell BR7.out 2).trans rfl
  have hr3 := (blk_cell BR7.out 3).trans rfl
  have hg0 := blk_frozen BR7.out 0
  have hg1 := blk_frozen BR7.out 1
  have hg2 := blk_frozen BR7.out 2
  have hg3 := blk_frozen BR7.out 3
  refine skip_ (w1 := ?_) (by rfl) rfl ?_ ?_
  rotate_left
  · go_simp
    rfl
  refine hK.out _ _ ?_
  clear hK K
  refine pure_ (i := 11) (N := some 3) (v := ?_) (a' := ?_) #[true, true, true, true, true, true, true, true, true, true, true, true] rfl rfl (any_of HT_.out (by kernel_rfl)) (fun _ _ _ h => h) (Or.inl ⟨by rfl, ?_⟩) ?_ ?_
  rotate_left
  · intro w'
    go_simp
    with_reducible rfl
  rotate_left
  · simp only [Act.put, List.setIfInBounds_toArray, List.set_cons_zero, List.set_cons_succ]
    rfl
  refine done_ (done_of HT_.out (by kernel_rfl)) ?_
  go_wp2
  refine bodyPost_ret (results_ct rfl _ _ w.heap.size 77 #[Value.bool false, Value.int IntKind.i64 0, Value.slice none 0 0, Value.int IntKind.i64 0] (0, 0) _ rfl (by first | exact (blk_put (cs := #[Value.bool false, Value.int IntKind.i64 0, Value.slice none 0 0, Value.int IntKind.i64 0]) (cs' := #[Value.bool false, Value.int IntKind.i64 0, Value.slice none 0 0, Value.int IntKind.i64 0]) (blk_put (cs := #[Value.bool false, Value.int IntKind.i64 0, Value.slice none 0 0, Value.int IntKind.i64 0]) (cs' := #[Value.bool false, Value.int IntKind.i64 0, Value.slice none 0 0, Value.int IntKind.i64 0]) (blk_put (cs := #[Value.bool false, Value.int IntKind.i64 0, Value.slice none 0 0, Value.int IntKind.i64 0]) (cs' := #[Value.bool false, Value.int IntKind.i64 0, Value.slice none 0 0, Value.int IntKind.i64 0]) (blk_put (cs := #[Value.bool false, Value.int IntKind.i64 0, Value.slice none 0 0, Value.int IntKind.i64 0]) (cs' := #[Value.bool false, Value.int IntKind.i64 0, Value.slice none 0 0, Value.int IntKind.i64 0]) BR7.out 0 _ rfl) 1 _ rfl) 2 _ rfl) 3 _ rfl) | exact blk_drew (blk_put (cs := #[Value.bool false, Value.int IntKind.i64 0, Value.slice none 0 0, Value.int IntKind.i64 0]) (cs' := #[Value.bool false, Value.int IntKind.i64 0, Value.slice none 0 0, Value.int IntKind.i64 0]) (blk_put (cs := #[Value.bool false, Value.int IntKind.i64 0, Value.slice none 0 0, Value.int IntKind.i64 0]) (cs' := #[Value.bool false, Value.int IntKind.i64 0, Value.slice none 0 0, Value.int IntKind.i64 0]) (blk_put (cs := #[Value.bool false, Value.int IntKind.i64 0, Value.slice none 0 0, Value.int IntKind.i64 0]) (cs' := #[Value.bool false, Value.int IntKind.i64 0, Value.slice none 0 0, Value.int IntKind.i64 0]) (blk_put (cs := #[Value.bool false, Value.int IntKind.i64 0, Value.slice none 0 0, Value.int IntKind.i64 0]) (cs' := #[Value.bool false, Value.int IntKind.i64 0, Value.slice none 0 0, Value.int IntKind.i64 0]) BR7.out 0 _ rfl) 1 _ rfl) 2 _ rfl) 3 _ rfl)) Try.underlying77 rfl (by kernel_rfl)) rfl ?_
  refine ⟨⟨(⟨false, ⟨0, []⟩, 0⟩ : Event), Value.slice none 0 0, by rw [HEV.out] <;> rfl, fun h => absurd (HEV.out.symm.trans h) (by decide), Kd.R_mono (ok := fun q => w.heap.size + 2 ≤ q) (by repeat (first | (with_reducible exact HO7.out) | ((with_reducible refine Kd.R_far ?_ ?ffa _); (case ffa => intro q hq; simp at hq ⊢; omega)) | (with_reducible refine Kd.R_alloc ?_ _) | (with_reducible refine Kd.R_drew ?_))) (fun _ _ => trivial)⟩, (by repeat (first | (with_reducible exact HB7.out) | (with_reducible refine below_alloc ?_ _) | (with_reducible refine below_drew1 ?_) | ((with_reducible refine below_set ?_ ?fle); (case fle => omega))))⟩
set_option maxRecDepth 100000 in
set_option maxHeartbeats 3200000 in
theorem impl_unpackEvent_d (A : Option Addr) (c : Nat) (l : List Int) (w : World) (hC : Kd.C (Kd.int .u8) w A l.length l) (hlc : l.length ≤ c) (hb : Bytes l) (h0 : l.length ≠ 0) (h1 : nthu8_ l 0 ≠ 1) (h2 : ¬ (l.length = 10 ∧ nthu8_ l 0 = 2)) : Calls Try.prog 30 #[.slice A l.length c] w fun e w' => (∃ (x : Event) (v : Value), e = .returned (.tuple #[.agg #[.bool x.vote, .int .i64 x.contract.id, v, .int .i64 x.outcome], .bool (evOk l)]) ∧ (evOk l = true → x = evOf l) ∧ Kd.R kLeg 151 w' w.heap.size (fun _ => True) v x.contract.legs) ∧ Below w.heap.size w w' := by
  have HC := Aside0.mk hC; have HY := Aside0.mk hb; clear hC hb
  have HB := Aside0.mk (Below.refl w.heap.size w)
  have hu := Try.underlying75
  have hv := Try.underlying77
  have hcr := Try.underlying117
  obtain ⟨ad, e0, x0⟩ := nthu8 HC.out 0 (by omega)
  subst e0
  have X0 : Aside0 (∀ w2, Below w.heap.size w w2 → w2.cell? ad = some (.int .u8 (nthu8_ l 0))) := ⟨fun w2 hb => by have := x0 w2 hb; simpa [atu8, Addr.add] using this⟩
  have hx0 := X0.out _ (below_alloc (below_alloc (Below.refl w.heap.size w) (Obj.cells #[Value.bool false, Value.int IntKind.i64 0, Value.slice none 0 0, Value.int IntKind.i64 0] 77)) (Obj.cells #[Value.bool false, Value.int IntKind.i64 0, Value.slice none 0 0, Value.int IntKind.i64 0] 77))
  clear x0
  have hpos : 0 < l.length := by omega
  have HEV : Aside0 (evOk l = false) := ⟨by
    cases he : evOk l
    · rfl
    · simp only [evOk, Bool.and_eq_true, decide_eq_true_eq] at he
      rw [if_neg h1] at he
      simp only [Bool.and_eq_true, decide_eq_true_eq] at he
      exact absurd ⟨he.2.2.1, he.2.1⟩ h2⟩
  have t1 : (nthu8_ l 0 == 1) = false := by simpa using h1
  by_cases h10 : l.length = 10
  · have t2 : (nthu8_ l 0 == 2) = false := by
      rw [beq_eq_false_iff_ne]; exact fun h => h2 ⟨h10, h⟩
    have t10 : ((l.length : Int) == 10) = true := by rw [h10]; rfl
    clear h10 h2 h1
    have t0 : (eventFault (⟨false, ⟨0, []⟩, 0⟩ : Event) == 0) = false := by decide
    have HLN : Aside0 ((⟨false, ⟨0, []⟩, 0⟩ : Event).contract.legs.length ≤ 8) := ⟨by simp⟩
    have hdl : (⟨false, ⟨0, []⟩, 0⟩ : Event).contract.legs.length ≤ 0 := by simp
    go_enter Try.func30, Try.ntmps30
    go_wp2
    have BR6 := Aside0.mk (blk_alloc (blk_new w (Obj.cells #[Value.bool false, Value.int IntKind.i64 0, Value.slice none 0 0, Value.int IntKind.i64 0] 77)) (Obj.cells #[Value.bool false, Value.int IntKind.i64 0, Value.slice none 0 0, Value.int IntKind.i64 0] 77))
    have BC6 := Aside0.mk (blk_new1 w (Obj.cells #[Value.bool false, Value.int IntKind.i64 0, Value.slice none 0 0, Value.int IntKind.i64 0] 77) (Obj.cells #[Value.bool false, Value.int IntKind.i64 0, Value.slice none 0 0, Value.int IntKind.i64 0] 77))
    have HB6 := Aside0.mk (below_alloc (below_alloc (Below.refl w.heap.size w) (Obj.cells #[Value.bool false, Value.int IntKind.i64 0, Value.slice none 0 0, Value.int IntKind.i64 0] 77)) (Obj.cells #[Value.bool false, Value.int IntKind.i64 0, Value.slice none 0 0, Value.int IntKind.i64 0] 77))
    have HO6 : Aside0 (Kd.R kLeg 151 ((w.alloc (Obj.cells #[Value.bool false, Value.int IntKind.i64 0, Value.slice none 0 0, Value.int IntKind.i64 0] 77)).alloc (Obj.cells #[Value.bool false, Value.int IntKind.i64 0, Value.slice none 0 0, Value.int IntKind.i64 0] 77)) w.heap.size (fun q => w.heap.size + 2 ≤ q) (.slice none 0 0) (⟨false, ⟨0, []⟩, 0⟩ : Event).contract.legs) := ⟨Kd.R_nil _ _ _ _ _⟩
    have HCL : Aside0 (kLeg.C ((w.alloc (Obj.cells #[Value.bool false, Value.int IntKind.i64 0, Value.slice none 0 0, Value.int IntKind.i64 0] 77)).alloc (Obj.cells #[Value.bool false, Value.int IntKind.i64 0, Value.slice none 0 0, Value.int IntKind.i64 0] 77)) none (⟨false, ⟨0, []⟩, 0⟩ : Event).contract.legs.length (⟨false, ⟨0, []⟩, 0⟩ : Event).contract.legs) := ⟨Kd.C_nil _ _⟩
    generalize (w.alloc (Obj.cells #[Value.bool false, Value.int IntKind.i64 0, Value.slice none 0 0, Value.int IntKind.i64 0] 77)).alloc (Obj.cells #[Value.bool false, Value.int IntKind.i64 0, Value.slice none 0 0, Value.int IntKind.i64 0] 77) = W6 at BR6 BC6 HB6 HO6 HCL ⊢
    refine start_ (n := 12) (S := fun w' => w'.cell? ⟨w.heap.size + 1, 0, none⟩ = some (Value.bool false) ∧ w'.cell? ⟨w.heap.size + 1, 1, none⟩ = some (Value.int IntKind.i64 0) ∧ w'.cell? ⟨w.heap.size + 1, 2, none⟩ = some (Value.slice none 0 0) ∧ w'.cell? ⟨w.heap.size + 1, 3, none⟩ = some (Value.int IntKind.i64 0)) (ds := [10]) #[false, false, false, false, false, false, false, false, false, false, false, false] (by kernel_rfl) rfl rfl ⟨(blk_cell (blk_drew BC6.out) 0).trans rfl, (blk_cell (blk_drew BC6.out) 1).trans rfl, (blk_cell (blk_drew BC6.out) 2).trans rfl, (blk_cell (blk_drew BC6.out) 3).trans rfl⟩ (fun hHeld => ?_)
    refine with_tabW impl_unpackEvent_R7.tab impl_unpackEvent_R7.bits (fun HT_ HW_ => ?_)
    refine take_ (i := 0) (N := some 43) (v := ?_) (a' := ?_) #[true, false, false, false, false, false, false, false, false, false, false, false] rfl rfl (take_ofW HT_.out HW_.out (by kernel_rfl)) (fun _ _ _ h => h) (Or.inl ⟨by rfl, ?_⟩) hHeld ?_ ?_
    rotate_left
    · rintro w' ⟨s0, s1, s2, s3⟩
      go_simp
      with_reducible rfl
    rotate_left
    · simp only [Act.put, List.setIfInBounds_toArray, List.set_cons_zero, List.set_cons_succ]
      rfl
    refine take_ (i := 1) (N := some 44) (v := ?_) (a' := ?_) #[true, true, false, false, false, false, false, false, false, false, false, false] rfl rfl (take_ofW HT_.out HW_.out (by kernel_rfl)) (fun _ _ _ h => h) (Or.inl ⟨by rfl, ?_⟩) hHeld ?_ ?_
    rotate_left
    · rintro w' ⟨s0, s1, s2, s3⟩
      go_simp
      with_reducible rfl
    rotate_left
    · simp only [Act.put, List.setIfInBounds_toArray, List.set_cons_zero, List.set_cons_succ]
      rfl
    refine one_ (i := 2) (N := some 45) #[true, true, true, false, false, false, false, false, false, false, false, false] rfl rfl (one_of HT_.out (by kernel_rfl)) (by decide) (fun K hK => ?_)
    refine goes_ Try.func67 (by kernel_rfl) rfl #[.agg #[Value.bool false, Value.int IntKind.i64 0, Value.slice none 0 0, Value.int IntKind.i64 0]] (by rfl) rfl rfl (by (try simp only [List.map_toArray, List.map_cons, List.map_nil]); first | done | rfl) ?_
    refine (impl_EventFault (⟨false, ⟨0, []⟩, 0⟩ : Event) _ _ (kEvent_mk (⟨false, ⟨0, []⟩, 0⟩ : Event) hdl (Kd.C_drew HCL.out)) (Nat.le_trans HLN.out (by decide))).mono ?_
    rintro e W7 ⟨rfl, hbw⟩
    have BR7 := Aside0.mk (blk_below (blk_drew BR6.out) hbw)
    have BC7 := Aside0.mk (blk_below (blk_drew BC6.out) hbw)
    have HO7 := Aside0.mk (Kd.R_below (Kd.R_drew HO6.out) hbw)
    have HB7 := Aside0.mk (below_step (below_drew1 HB6.out) hbw)
    have HCL7 := Aside0.mk (Kd.C_below (Kd.C_drew HCL.out) hbw)
    have hz7 : w.heap.size + 1 < W7.heap.size := blk_lt BC7.out
    have hz7b : w.heap.size < W7.heap.size := blk_lt BR7.out
    clear hbw
    refine ⟨_, rfl, ?_⟩
    refine hK.out _ _ ⟨(blk_cell BC7.out 0).trans rfl, (blk_cell BC7.out 1).trans rfl, (blk_cell BC7.out 2).trans rfl, (blk_cell BC7.out 3).trans rfl⟩ (fun hHeld => ?_)
    clear hK K
    refine norm_ (a' := ?_) ?_ ?_
    rotate_left
    · show Act.put _ (some 45) _ = _
      simp only [Act.put, List.setIfInBounds_toArray, List.set_cons_zero, List.set_cons_succ]
      rfl
    refine pure_ (i := 3) (N := some 46) (v := ?_) (a' := ?_) #[true, true, true, true, false, false, false, false, false, false, false, false] rfl rfl (any_of HT_.out (by kernel_rfl)) (fun _ _ _ h => h) (Or.inl ⟨by rfl, ?_⟩) ?_ ?_
    rotate_left
    · intro w'
      go_simp
      with_reducible rfl
    rotate_left
    · simp only [Act.put, List.setIfInBounds_toArray, List.set_cons_zero, List.set_cons_succ]
      rfl
    refine pure_ (i := 4) (N := some 47) (v := ?_) (a' := ?_) #[true, true, true, true, true, false, false, false, false, false, false, false] rfl rfl (any_of HT_.out (by kernel_rfl)) (fun _ _ _ h => h) (Or.inl ⟨by rfl, ?_⟩) ?_ ?_
    rotate_left
    · intro w'
      go_simp
      with_reducible rfl
    rotate_left
    · simp only [Act.put, List.setIfInBounds_toArray, List.set_cons_zero, List.set_cons_succ]
      rfl
    refine pure_ (i := 7) (N := some 50) (v := undef) (a' := ?_) #[true, true, true, true, true, false, false, true, false, false, false, false] rfl rfl (any_of HT_.out (by kernel_rfl)) (fun _ _ _ h => h) (Or.inr ⟨by rfl, rfl⟩) ?_ ?_
    rotate_left
    · simp only [Act.put, List.setIfInBounds_toArray, List.set_cons_zero, List.set_cons_succ]
      rfl
    refine take_ (i := 5) (N := some 48) (v := undef) (a' := ?_) #[true, true, true, true, true, true, false, true, false, false, false, false] rfl rfl (take_ofW HT_.out HW_.out (by kernel_rfl)) (fun _ _ _ h => h) (Or.inr ⟨by rfl, rfl⟩) hHeld ?_ ?_
    rotate_left
    · simp only [Act.put, List.setIfInBounds_toArray, List.set_cons_zero, List.set_cons_succ]
      rfl
    refine one_ (i := 6) (N := some 49) #[true, true, true, true, true, true, true, true, false, false, false, false] rfl rfl (one_of HT_.out (by kernel_rfl)) (by decide) (fun K hK => ?_)
    refine off_ (by rfl) ?_
    refine hK.out _ _ ⟨(blk_cell BC7.out 0).trans rfl, (blk_cell BC7.out 1).trans rfl, (blk_cell BC7.out 2).trans rfl, (blk_cell BC7.out 3).trans rfl⟩ (fun hHeld => ?_)
    clear hK K
    refine norm_ (a' := ?_) ?_ ?_
    rotate_left
    · show Act.put _ (some 49) _ = _
      simp only [Act.put, List.setIfInBounds_toArray, List.set_cons_zero, List.set_cons_succ]
      rfl
    refine one_ (i := 8) (N := some 51) #[true, true, true, true, true, true, true, true, true, false, false, false] rfl rfl (one_of HT_.out (by kernel_rfl)) (by decide) (fun K hK => ?_)
    refine off_ (by rfl) ?_
    refine hK.out _ _ ⟨(blk_cell BC7.out 0).trans rfl, (blk_cell BC7.out 1).trans rfl, (blk_cell BC7.out 2).trans rfl, (blk_cell BC7.out 3).trans rfl⟩ (fun hHeld => ?_)
    clear hK K
    refine norm_ (a' := ?_) ?_ ?_
    rotate_left
    · show Act.put _ (some 51) _ = _
      simp only [Act.put, List.setIfInBounds_toArray, List.set_cons_zero, List.set_cons_succ]
      rfl
    refine pure_ (i := 9) (N := some 52) (v := ?_) (a' := ?_) #[true, true, true, true, true, true, true, true, true, true, false, false] rfl rfl (any_of HT_.out (by kernel_rfl)) (fun _ _ _ h => h) (Or.inl ⟨by rfl, ?_⟩) ?_ ?_
    rotate_left
    · intro w'
      go_simp
      with_reducible rfl
    rotate_left
    · simp only [Act.put, List.setIfInBounds_toArray, List.set_cons_zero, List.set_cons_succ]
      rfl
    refine last_ (i := 10) (N := none) #[true, true, true, true, true, true, true, true, true, true, true, false] rfl rfl (one_of HT_.out (by kernel_rfl)) (by decide) (fun K hK => ?_)
    have hr0 := (blk_cell BR7.out 0).trans rfl
    have hr1 := (blk_cell BR7.out 1).trans rfl
    have hr2 := (blk_cell BR7.out 2).trans rfl
    have hr3 := (blk_cell BR7.out 3).trans rfl
    have hg0 := blk_frozen BR7.out 0
    have hg1 := blk_frozen BR7.out 1
    have hg2 := blk_frozen BR7.out 2
    have hg3 := blk_frozen BR7.out 3
    refine skip_ (w1 := ?_) (by rfl) rfl ?_ ?_
    rotate_left
    · go_simp
      rfl
    refine hK.out _ _ ?_
    clear hK K
    refine pure_ (i := 11) (N := some 3) (v := ?_) (a' := ?_) #[true, true, true, true, true, true, true, true, true, true, true, true] rfl rfl (any_of HT_.out (by kernel_rfl)) (fun _ _ _ h => h) (Or.inl ⟨by rfl, ?_⟩) ?_ ?_
    rotate_left
    · intro w'
      go_simp
      with_reducible rfl
    rotate_left
    · simp only [Act.put, List.setIfInBounds_toArray, List.set_cons_zero, List.set_cons_succ]
      rfl
    refine done_ (done_of HT_.out (by kernel_rfl)) ?_
    go_wp2
    refine bodyPost_ret (results_ct rfl _ _ w.heap.size 77 #[Value.bool false, Value.int IntKind.i64 0, Value.slice none 0 0, Value.int IntKind.i64 0] (0, 0) _ rfl (by first | exact (blk_put (cs := #[Value.bool false, Value.int IntKind.i64 0, Value.slice none 0 0, Value.int IntKind.i64 0]) (cs' := #[Value.bool false, Value.int IntKind.i64 0, Value.slice none 0 0, Value.int IntKind.i64 0]) (blk_put (cs := #[Value.bool false, Value.int IntKind.i64 0, Value.slice none 0 0, Value.int IntKind.i64 0]) (cs' := #[Value.bool false, Value.int IntKind.i64 0, Value.slice none 0 0, Value.int IntKind.i64 0]) (blk_put (cs := #[Value.bool false, Value.int IntKind.i64 0, Value.slice none 0 0, Value.int IntKind.i64 0]) (cs' := #[Value.bool false, Value.int IntKind.i64 0, Value.slice none 0 0, Value.int IntKind.i64 0]) (blk_put (cs := #[Value.bool false, Value.int IntKind.i64 0, Value.slice none 0 0, Value.int IntKind.i64 0]) (cs' := #[Value.bool false, Value.int IntKind.i64 0, Value.slice none 0 0, Value.int IntKind.i64 0]) BR7.out 0 _ rfl) 1 _ rfl) 2 _ rfl) 3 _ rfl) | exact blk_drew (blk_put (cs := #[Value.bool false, Value.int IntKind.i64 0, Value.slice none 0 0, Value.int IntKind.i64 0]) (cs' := #[Value.bool false, Value.int IntKind.i64 0, Value.slice none 0 0, Value.int IntKind.i64 0]) (blk_put (cs := #[Value.bool false, Value.int IntKind.i64 0, Value.slice none 0 0, Value.int IntKind.i64 0]) (cs' := #[Value.bool false, Value.int IntKind.i64 0, Value.slice none 0 0, Value.int IntKind.i64 0]) (blk_put (cs := #[Value.bool false, Value.int IntKind.i64 0, Value.slice none 0 0, Value.int IntKind.i64 0]) (cs' := #[Value.bool false, Value.int IntKind.i64 0, Value.slice none 0 0, Value.int IntKind.i64 0]) (blk_put (cs := #[Value.bool false, Value.int IntKind.i64 0, Value.slice none 0 0, Value.int IntKind.i64 0]) (cs' := #[Value.bool false, Value.int IntKind.i64 0, Value.slice none 0 0, Value.int IntKind.i64 0]) BR7.out 0 _ rfl) 1 _ rfl) 2 _ rfl) 3 _ rfl)) Try.underlying77 rfl (by kernel_rfl)) rfl ?_
    refine ⟨⟨(⟨false, ⟨0, []⟩, 0⟩ : Event), Value.slice none 0 0, by rw [HEV.out] <;> rfl, fun h => absurd (HEV.out.symm.trans h) (by decide), Kd.R_mono (ok := fun q => w.heap.size + 2 ≤ q) (by repeat (first | (with_reducible exact HO7.out) | ((with_reducible refine Kd.R_far ?_ ?ffa _); (case ffa => intro q hq; simp at hq ⊢; omega)) | (with_reducible refine Kd.R_alloc ?_ _) | (with_reducible refine Kd.R_drew ?_))) (fun _ _ => trivial)⟩, (by repeat (first | (with_reducible exact HB7.out) | (with_reducible refine below_alloc ?_ _) | (with_reducible refine below_drew1 ?_) | ((with_reducible refine below_set ?_ ?fle); (case fle => omega))))⟩
  · have t10 : ((l.length : Int) == 10) = false := by rw [beq_eq_false_iff_ne]; omega
    clear h10 h2 h1
    have t0 : (eventFault (⟨false, ⟨0, []⟩, 0⟩ : Event) == 0) = false := by decide
    have HLN : Aside0 ((⟨false, ⟨0, []⟩, 0⟩ : Event).contract.legs.length ≤ 8) := ⟨by simp⟩
    have hdl : (⟨false, ⟨0, []⟩, 0⟩ : Event).contract.legs.length ≤ 0 := by simp
    go_enter Try.func30, Try.ntmps30
    go_wp2
    have BR6 := Aside0.mk (blk_alloc (blk_new w (Obj.cells #[Value.bool false, Value.int IntKind.i64 0, Value.slice none 0 0, Value.int IntKind.i64 0] 77)) (Obj.cells #[Value.bool false, Value.int IntKind.i64 0, Value.slice none 0 0, Value.int IntKind.i64 0] 77))
    have BC6 := Aside0.mk (blk_new1 w (Obj.cells #[Value.bool false, Value.int IntKind.i64 0, Value.slice none 0 0, Value.int IntKind.i64 0] 77) (Obj.cells #[Value.bool false, Value.int IntKind.i64 0, Value.slice none 0 0, Value.int IntKind.i64 0] 77))
    have HB6 := Aside0.mk (below_alloc (below_alloc (Below.refl w.heap.size w) (Obj.cells #[Value.bool false, Value.int IntKind.i64 0, Value.slice none 0 0, Value.int IntKind.i64 0] 77)) (Obj.cells #[Value.bool false, Value.int IntKind.i64 0, Value.slice none 0 0, Value.int IntKind.i64 0] 77))
    have HO6 : Aside0 (Kd.R kLeg 151 ((w.alloc (Obj.cells #[Value.bool false, Value.int IntKind.i64 0, Value.slice none 0 0, Value.int IntKind.i64 0] 77)).alloc (Obj.cells #[Value.bool false, Value.int IntKind.i64 0, Value.slice none 0 0, Value.int IntKind.i64 0] 77)) w.heap.size (fun q => w.heap.size + 2 ≤ q) (.slice none 0 0) (⟨false, ⟨0, []⟩, 0⟩ : Event).contract.legs) := ⟨Kd.R_nil _ _ _ _ _⟩
    have HCL : Aside0 (kLeg.C ((w.alloc (Obj.cells #[Value.bool false, Value.int IntKind.i64 0, Value.slice none 0 0, Value.int IntKind.i64 0] 77)).alloc (Obj.cells #[Value.bool false, Value.int IntKind.i64 0, Value.slice none 0 0, Value.int IntKind.i64 0] 77)) none (⟨false, ⟨0, []⟩, 0⟩ : Event).contract.legs.length (⟨false, ⟨0, []⟩, 0⟩ : Event).contract.legs) := ⟨Kd.C_nil _ _⟩
    generalize (w.alloc (Obj.cells #[Value.bool false, Value.int IntKind.i64 0, Value.slice none 0 0, Value.int IntKind.i64 0] 77)).alloc (Obj.cells #[Value.bool false, Value.int IntKind.i64 0, Value.slice none 0 0, Value.int IntKind.i64 0] 77) = W6 at BR6 BC6 HB6 HO6 HCL ⊢
    refine start_ (n := 12) (S := fun w' => w'.cell? ⟨w.heap.size + 1, 0, none⟩ = some (Value.bool false) ∧ w'.cell? ⟨w.heap.size + 1, 1, none⟩ = some (Value.int IntKind.i64 0) ∧ w'.cell? ⟨w.heap.size + 1, 2, none⟩ = some (Value.slice none 0 0) ∧ w'.cell? ⟨w.heap.size + 1, 3, none⟩ = some (Value.int IntKind.i64 0)) (ds := [10]) #[false, false, false, false, false, false, false, false, false, false, false, false] (by kernel_rfl) rfl rfl ⟨(blk_cell (blk_drew BC6.out) 0).trans rfl, (blk_cell (blk_drew BC6.out) 1).trans rfl, (blk_cell (blk_drew BC6.out) 2).trans rfl, (blk_cell (blk_drew BC6.out) 3).trans rfl⟩ (fun hHeld => ?_)
    refine with_tabW impl_unpackEvent_R7.tab impl_unpackEvent_R7.bits (fun HT_ HW_ => ?_)
    refine take_ (i := 0) (N := some 43) (v := ?_) (a' := ?_) #[true, false, false, false, false, false, false, false, false, false, false, false] rfl rfl (take_ofW HT_.out HW_.out (by kernel_rfl)) (fun _ _ _ h => h) (Or.inl ⟨by rfl, ?_⟩) hHeld ?_ ?_
    rotate_left
    · rintro w' ⟨s0, s1, s2, s3⟩
      go_simp
      with_reducible rfl
    rotate_left
    · simp only [Act.put, List.setIfInBounds_toArray, List.set_cons_zero, List.set_cons_succ]
      rfl
    refine take_ (i := 1) (N := some 44) (v := ?_) (a' := ?_) #[true, true, false, false, false, false, false, false, false, false, false, false] rfl rfl (take_ofW HT_.out HW_.out (by kernel_rfl)) (fun _ _ _ h => h) (Or.inl ⟨by rfl, ?_⟩) hHeld ?_ ?_
    rotate_left
    · rintro w' ⟨s0, s1, s2, s3⟩
      go_simp
      with_reducible rfl
    rotate_left
    · simp only [Act.put, List.setIfInBounds_toArray, List.set_cons_zero, List.set_cons_succ]
      rfl
    refine one_ (i := 2) (N := some 45) #[true, true, true, false, false, false, false, false, false, false, false, false] rfl rfl (one_of HT_.out (by kernel_rfl)) (by decide) (fun K hK => ?_)
    refine goes_ Try.func67 (by kernel_rfl) rfl #[.agg #[Value.bool false, Value.int IntKind.i64 0, Value.slice none 0 0, Value.int IntKind.i64 0]] (by rfl) rfl rfl (by (try simp only [List.map_toArray, List.map_cons, List.map_nil]); first | done | rfl) ?_
    refine (impl_EventFault (⟨false, ⟨0, []⟩, 0⟩ : Event) _ _ (kEvent_mk (⟨false, ⟨0, []⟩, 0⟩ : Event) hdl (Kd.C_drew HCL.out)) (Nat.le_trans HLN.out (by decide))).mono ?_
    rintro e W7 ⟨rfl, hbw⟩
    have BR7 := Aside0.mk (blk_below (blk_drew BR6.out) hbw)
    have BC7 := Aside0.mk (blk_below (blk_drew BC6.out) hbw)
    have HO7 := Aside0.mk (Kd.R_below (Kd.R_drew HO6.out) hbw)
    have HB7 := Aside0.mk (below_step (below_drew1 HB6.out) hbw)
    have HCL7 := Aside0.mk (Kd.C_below (Kd.C_drew HCL.out) hbw)
    have hz7 : w.heap.size + 1 < W7.heap.size := blk_lt BC7.out
    have hz7b : w.heap.size < W7.heap.size := blk_lt BR7.out
    clear hbw
    refine ⟨_, rfl, ?_⟩
    refine hK.out _ _ ⟨(blk_cell BC7.out 0).trans rfl, (blk_cell BC7.out 1).trans rfl, (blk_cell BC7.out 2).trans rfl, (blk_cell BC7.out 3).trans rfl⟩ (fun hHeld => ?_)
    clear hK K
    refine norm_ (a' := ?_) ?_ ?_
    rotate_left
    · show Act.put _ (some 45) _ = _
      simp only [Act.put, List.setIfInBounds_toArray, List.set_cons_zero, List.set_cons_succ]
      rfl
    refine pure_ (i := 3) (N := some 46) (v := ?_) (a' := ?_) #[true, true, true, true, false, false, false, false, false, false, false, false] rfl rfl (any_of HT_.out (by kernel_rfl)) (fun _ _ _ h => h) (Or.inl ⟨by rfl, ?_⟩) ?_ ?_
    rotate_left
    · intro w'
      go_simp
      with_reducible rfl
    rotate_left
    · simp only [Act.put, List.setIfInBounds_toArray, List.set_cons_zero, List.set_cons_succ]
      rfl
    refine pure_ (i := 4) (N := some 47) (v := ?_) (a' := ?_) #[true, true, true, true, true, false, false, false, false, false, false, false] rfl rfl (any_of HT_.out (by kernel_rfl)) (fun _ _ _ h => h) (Or.inl ⟨by rfl, ?_⟩) ?_ ?_
    rotate_left
    · intro w'
      go_simp
      with_reducible rfl
    rotate_left
    · simp only [Act.put, List.setIfInBounds_toArray, List.set_cons_zero, List.set_cons_succ]
      rfl
    refine pure_ (i := 7) (N := some 50) (v := undef) (a' := ?_) #[true, true, true, true, true, false, false, true, false, false, false, false] rfl rfl (any_of HT_.out (by kernel_rfl)) (fun _ _ _ h => h) (Or.inr ⟨by rfl, rfl⟩) ?_ ?_
    rotate_left
    · simp only [Act.put, List.setIfInBounds_toArray, List.set_cons_zero, List.set_cons_succ]
      rfl
    refine take_ (i := 5) (N := some 48) (v := undef) (a' := ?_) #[true, true, true, true, true, true, false, true, false, false, false, false] rfl rfl (take_ofW HT_.out HW_.out (by kernel_rfl)) (fun _ _ _ h => h) (Or.inr ⟨by rfl, rfl⟩) hHeld ?_ ?_
    rotate_left
    · simp only [Act.put, List.setIfInBounds_toArray, List.set_cons_zero, List.set_cons_succ]
      rfl
    refine one_ (i := 6) (N := some 49) #[true, true, true, true, true, true, true, true, false, false, false, false] rfl rfl (one_of HT_.out (by kernel_rfl)) (by decide) (fun K hK => ?_)
    refine off_ (by rfl) ?_
    refine hK.out _ _ ⟨(blk_cell BC7.out 0).trans rfl, (blk_cell BC7.out 1).trans rfl, (blk_cell BC7.out 2).trans rfl, (blk_cell BC7.out 3).trans rfl⟩ (fun hHeld => ?_)
    clear hK K
    refine norm_ (a' := ?_) ?_ ?_
    rotate_left
    · show Act.put _ (some 49) _ = _
      simp only [Act.put, List.setIfInBounds_toArray, List.set_cons_zero, List.set_cons_succ]
      rfl
    refine one_ (i := 8) (N := some 51) #[true, true, true, true, true, true, true, true, true, false, false, false] rfl rfl (one_of HT_.out (by kernel_rfl)) (by decide) (fun K hK => ?_)
    refine off_ (by rfl) ?_
    refine hK.out _ _ ⟨(blk_cell BC7.out 0).trans rfl, (blk_cell BC7.out 1).trans rfl, (blk_cell BC7.out 2).trans rfl, (blk_cell BC7.out 3).trans rfl⟩ (fun hHeld => ?_)
    clear hK K
    refine norm_ (a' := ?_) ?_ ?_
    rotate_left
    · show Act.put _ (some 51) _ = _
      simp only [Act.put, List.setIfInBounds_toArray, List.set_cons_zero, List.set_cons_succ]
      rfl
    refine pure_ (i := 9) (N := some 52) (v := ?_) (a' := ?_) #[true, true, true, true, true, true, true, true, true, true, false, false] rfl rfl (any_of HT_.out (by kernel_rfl)) (fun _ _ _ h => h) (Or.inl ⟨by rfl, ?_⟩) ?_ ?_
    rotate_left
    · intro w'
      go_simp
      with_reducible rfl
    rotate_left
    · simp only [Act.put, List.setIfInBounds_toArray, List.set_cons_zero, List.set_cons_succ]
      rfl
    refine last_ (i := 10) (N := none) #[true, true, true, true, true, true, true, true, true, true, true, false] rfl rfl (one_of HT_.out (by kernel_rfl)) (by decide) (fun K hK => ?_)
    have hr0 := (blk_cell BR7.out 0).trans rfl
    have hr1 := (blk_cell BR7.out 1).trans rfl
    have hr2 := (blk_cell BR7.out 2).trans rfl
    have hr3 := (blk_cell BR7.out 3).trans rfl
    have hg0 := blk_frozen BR7.out 0
    have hg1 := blk_frozen BR7.out 1
    have hg2 := blk_frozen BR7.out 2
    have hg3 := blk_frozen BR7.out 3
    refine skip_ (w1 := ?_) (by rfl) rfl ?_ ?_
    rotate_left
    · go_simp
      rfl
    refine hK.out _ _ ?_
    clear hK K
    refine pure_ (i := 11) (N := some 3) (v := ?_) (a' := ?_) #[true, true, true, true, true, true, true, true, true, true, true, true] rfl rfl (any_of HT_.out (by kernel_rfl)) (fun _ _ _ h => h) (Or.inl ⟨by rfl, ?_⟩) ?_ ?_
    rotate_left
    · intro w'
      go_simp
      with_reducible rfl
    rotate_left
    · simp only [Act.put, List.setIfInBounds_toArray, List.set_cons_zero, List.set_cons_succ]
      rfl
    refine done_ (done_of HT_.out (by kernel_rfl)) ?_
    go_wp2
    refine bodyPost_ret (results_ct rfl _ _ w.heap.size 77 #[Value.bool false, Value.int IntKind.i64 0, Value.slice none 0 0, Value.int IntKind.i64 0] (0, 0) _ rfl (by first | exact (blk_put (cs := #[Value.bool false, Value.int IntKind.i64 0, Value.slice none 0 0, Value.int IntKind.i64 0]) (cs' := #[Value.bool false, Value.int IntKind.i64 0, Value.slice none 0 0, Value.int IntKind.i64 0]) (blk_put (cs := #[Value.bool false, Value.int IntKind.i64 0, Value.slice none 0 0, Value.int IntKind.i64 0]) (cs' := #[Value.bool false, Value.int IntKind.i64 0, Value.slice none 0 0, Value.int IntKind.i64 0]) (blk_put (cs := #[Value.bool false, Value.int IntKind.i64 0, Value.slice none 0 0, Value.int IntKind.i64 0]) (cs' := #[Value.bool false, Value.int IntKind.i64 0, Value.slice none 0 0, Value.int IntKind.i64 0]) (blk_put (cs := #[Value.bool false, Value.int IntKind.i64 0, Value.slice none 0 0, Value.int IntKind.i64 0]) (cs' := #[Value.bool false, Value.int IntKind.i64 0, Value.slice none 0 0, Value.int IntKind.i64 0]) BR7.out 0 _ rfl) 1 _ rfl) 2 _ rfl) 3 _ rfl) | exact blk_drew (blk_put (cs := #[Value.bool false, Value.int IntKind.i64 0, Value.slice none 0 0, Value.int IntKind.i64 0]) (cs' := #[Value.bool false, Value.int IntKind.i64 0, Value.slice none 0 0, Value.int IntKind.i64 0]) (blk_put (cs := #[Value.bool false, Value.int IntKind.i64 0, Value.slice none 0 0, Value.int IntKind.i64 0]) (cs' := #[Value.bool false, Value.int IntKind.i64 0, Value.slice none 0 0, Value.int IntKind.i64 0]) (blk_put (cs := #[Value.bool false, Value.int IntKind.i64 0, Value.slice none 0 0, Value.int IntKind.i64 0]) (cs' := #[Value.bool false, Value.int IntKind.i64 0, Value.slice none 0 0, Value.int IntKind.i64 0]) (blk_put (cs := #[Value.bool false, Value.int IntKind.i64 0, Value.slice none 0 0, Value.int IntKind.i64 0]) (cs' := #[Value.bool false, Value.int IntKind.i64 0, Value.slice none 0 0, Value.int IntKind.i64 0]) BR7.out 0 _ rfl) 1 _ rfl) 2 _ rfl) 3 _ rfl)) Try.underlying77 rfl (by kernel_rfl)) rfl ?_
    refine ⟨⟨(⟨false, ⟨0, []⟩, 0⟩ : Event), Value.slice none 0 0, by rw [HEV.out] <;> rfl, fun h => absurd (HEV.out.symm.trans h) (by decide), Kd.R_mono (ok := fun q => w.heap.size + 2 ≤ q) (by repeat (first | (with_reducible exact HO7.out) | ((with_reducible refine Kd.R_far ?_ ?ffa _); (case ffa => intro q hq; simp at hq ⊢; omega)) | (with_reducible refine Kd.R_alloc ?_ _) | (with_reducible refine Kd.R_drew ?_))) (fun _ _ => trivial)⟩, (by repeat (first | (with_reducible exact HB7.out) | (with_reducible refine below_alloc ?_ _) | (with_reducible refine below_drew1 ?_) | ((with_reducible refine below_set ?_ ?fle); (case fle => omega))))⟩
set_option maxRecDepth 100000 in
set_option maxHeartbeats 3200000 in
theorem impl_unpackEvent_b (A : Option Addr) (c : Nat) (l : List Int) (w : World) (hC : Kd.C (Kd.int .u8) w A l.length l) (hlc : l.length ≤ c) (hb : Bytes l) (h0 : l.length ≠ 0) (h1 : nthu8_ l 0 = 1) : Calls Try.prog 30 #[.slice A l.length c] w fun e w' => (∃ (x : Event) (v : Value), e = .returned (.tuple #[.agg #[.bool x.vote, .int .i64 x.contract.id, v, .int .i64 x.outcome], .bool (evOk l)]) ∧ (evOk l = true → x = evOf l) ∧ Kd.R kLeg 151 w' w.heap.size (fun _ => True) v x.contract.legs) ∧ Below w.heap.size w w' := by
  have HC := Aside0.mk hC; have HY := Aside0.mk hb; clear hC hb
  have HB := Aside0.mk (Below.refl w.heap.size w)
  have hu := Try.underlying75
  have hv := Try.underlying77
  have hcr := Try.underlying117
  obtain ⟨ad, e0, x0⟩ := nthu8 HC.out 0 (by omega)
  subst e0
  have X0 : Aside0 (∀ w2, Below w.heap.size w w2 → w2.cell? ad = some (.int .u8 (nthu8_ l 0))) := ⟨fun w2 hb => by have := x0 w2 hb; simpa [atu8, Addr.add] using this⟩
  have hx0 := X0.out _ (below_alloc (below_alloc (Below.refl w.heap.size w) (Obj.cells #[Value.bool false, Value.int IntKind.i64 0, Value.slice none 0 0, Value.int IntKind.i64 0] 77)) (Obj.cells #[Value.bool false, Value.int IntKind.i64 0, Value.slice none 0 0, Value.int IntKind.i64 0] 77))
  clear x0
  have hpos : 0 < l.length := by omega
  obtain ⟨Ac, hcut, hcC, hcl⟩ := cutFrom (some ad) c l 1 1 rfl (by omega) hlc
  have hev : evOk l = unconOk (l.drop 1) ∧ evOf l = ⟨true, conOf (l.drop 1), 0⟩ := ⟨by simp [evOk, h0, h1], by simp [evOf, h1]⟩
  have hyd := drop_bytes HY.out 1
  have hpk : evOk l = true → packEv (evOf l) = l := packEv_of l HY.out
  obtain ⟨D, hD⟩ : ∃ D, l.drop 1 = D := ⟨_, rfl⟩
  rw [hD] at hcut hcC hcl hyd hev
  have HCD := Aside0.mk (hcC _ HC.out); have HYD := Aside0.mk hyd; have HE := Aside0.mk hev; have HPK := Aside0.mk hpk; clear hcC hyd hev hD hpk
  go_enter Try.func30, Try.ntmps30
  go_wp2_with (first | (go_at_call 65; go_must (refine (impl_UnpackContract _ _ D _ (Kd.C_below HCD.out (below_alloc (below_alloc (Below.refl w.heap.size w) _) _)) hcl HYD.out).mono ?_; rintro e W1 ⟨⟨xc, v, rfl, hx, ho⟩, hbw⟩; have BR1 := Aside0.mk (blk_below (blk_alloc (blk_new w _) _) hbw); have BC1 := Aside0.mk (blk_below (blk_new1 w _ _) hbw); have HB1 : Aside0 (Below w.heap.size w W1) := ⟨below_step (below_alloc (below_alloc (Below.refl w.heap.size w) _) _) hbw⟩; have HX := Aside0.mk hx; obtain ⟨Av, dv, ev⟩ := Kd.R_slice ho; subst ev; have HO1 : Aside0 (Kd.R kLeg 151 W1 w.heap.size (fun q => w.heap.size + 2 ≤ q) (.slice Av xc.legs.length dv) xc.legs) := ⟨Kd.R_lower (Kd.R_mono (Kd.R_bound ho) (fun q h => by simpa using h.2.1)) (by simp; omega)⟩; have hc0 := (blk_cell BC1.out 0).trans rfl; have hc1 := (blk_cell BC1.out 1).trans rfl; have hc2 := (blk_cell BC1.out 2).trans rfl; have hc3 := (blk_cell BC1.out 3).trans rfl; have hf0 := blk_frozen BC1.out 0; have hf1 := blk_frozen BC1.out 1; have hf2 := blk_frozen BC1.out 2; have hf3 := blk_frozen BC1.out 3; have hz3 : w.heap.size + 1 < W1.heap.size := blk_lt BC1.out; have hz2 : w.heap.size < W1.heap.size := (by omega); clear hbw ho hx)))
  have BC6 := Aside0.mk (blk_alloc (blk_put (cs := #[Value.bool true, Value.int IntKind.i64 xc.id, Value.slice Av xc.legs.length dv, Value.int IntKind.i64 0]) (cs' := #[Value.bool true, Value.int IntKind.i64 xc.id, Value.slice Av xc.legs.length dv, Value.int IntKind.i64 0]) (blk_put (cs := #[Value.bool true, Value.int IntKind.i64 xc.id, Value.slice none 0 0, Value.int IntKind.i64 0]) (cs' := #[Value.bool true, Value.int IntKind.i64 xc.id, Value.slice Av xc.legs.length dv, Value.int IntKind.i64 0]) (blk_put (cs := #[Value.bool true, Value.int IntKind.i64 0, Value.slice none 0 0, Value.int IntKind.i64 0]) (cs' := #[Value.bool true, Value.int IntKind.i64 xc.id, Value.slice none 0 0, Value.int IntKind.i64 0]) (blk_put (cs := #[Value.bool false, Value.int IntKind.i64 0, Value.slice none 0 0, Value.int IntKind.i64 0]) (cs' := #[Value.bool true, Value.int IntKind.i64 0, Value.slice none 0 0, Value.int IntKind.i64 0]) BC1.out 0 (Value.bool true) rfl) 1 (Value.int IntKind.i64 xc.id) rfl) 2 (Value.slice Av xc.legs.length dv) rfl) 3 (Value.int IntKind.i64 0) rfl) (Obj.cells #[Value.int IntKind.i64 (unconCode D), Value.int IntKind.i64 xc.id, Value.slice Av xc.legs.length dv] 117))
  have BR6 := Aside0.mk (blk_alloc (blk_far (p := ⟨w.heap.size + 1, 3, none⟩) (blk_far (p := ⟨w.heap.size + 1, 2, none⟩) (blk_far (p := ⟨w.heap.size + 1, 1, none⟩) (blk_far (p := ⟨w.heap.size + 1, 0, none⟩) BR1.out (by simp) (Value.bool true)) (by simp) (Value.int IntKind.i64 xc.id)) (by simp) (Value.slice Av xc.legs.length dv)) (by simp) (Value.int IntKind.i64 0)) (Obj.cells #[Value.int IntKind.i64 (unconCode D), Value.int IntKind.i64 xc.id, Value.slice Av xc.legs.length dv] 117))
  have HO6 := Aside0.mk (Kd.R_alloc (Kd.R_far (p := ⟨w.heap.size + 1, 3, none⟩) (Kd.R_far (p := ⟨w.heap.size + 1, 2, none⟩) (Kd.R_far (p := ⟨w.heap.size + 1, 1, none⟩) (Kd.R_far (p := ⟨w.heap.size + 1, 0, none⟩) HO1.out (fun q hq => by show q ≠ w.heap.size + 1; omega) (Value.bool true)) (fun q hq => by show q ≠ w.heap.size + 1; omega) (Value.int IntKind.i64 xc.id)) (fun q hq => by show q ≠ w.heap.size + 1; omega) (Value.slice Av xc.legs.length dv)) (fun q hq => by show q ≠ w.heap.size + 1; omega) (Value.int IntKind.i64 0)) (Obj.cells #[Value.int IntKind.i64 (unconCode D), Value.int IntKind.i64 xc.id, Value.slice Av xc.legs.length dv] 117))
  have HB6 := Aside0.mk (below_alloc (below_set (g := w.heap.size + 1) (j := 3) (v := Value.int IntKind.i64 0) (below_set (g := w.heap.size + 1) (j := 2) (v := Value.slice Av xc.legs.length dv) (below_set (g := w.heap.size + 1) (j := 1) (v := Value.int IntKind.i64 xc.id) (below_set (g := w.heap.size + 1) (j := 0) (v := Value.bool true) HB1.out (by omega)) (by omega)) (by omega)) (by omega)) (Obj.cells #[Value.int IntKind.i64 (unconCode D), Value.int IntKind.i64 xc.id, Value.slice Av xc.legs.length dv] 117))
  clear hc0 hc1 hc2 hc3 hf0 hf1 hf2 hf3 hx0 hz2 hz3 BC1 BR1 HO1 HB1
  generalize ((((W1.setCell ⟨w.heap.size + 1, 0, none⟩ (Value.bool true)).setCell ⟨w.heap.size + 1, 1, none⟩ (Value.int IntKind.i64 xc.id)).setCell ⟨w.heap.size + 1, 2, none⟩ (Value.slice Av xc.legs.length dv)).setCell ⟨w.heap.size + 1, 3, none⟩ (Value.int IntKind.i64 0)).alloc (Obj.cells #[Value.int IntKind.i64 (unconCode D), Value.int IntKind.i64 xc.id, Value.slice Av xc.legs.length dv] 117) = W6 at BC6 BR6 HO6 HB6 ⊢
  obtain ⟨hdl0, hcl0⟩ : xc.legs.length ≤ dv ∧ kLeg.C W6 Av xc.legs.length xc.legs := (Kd.R_reads' HO6.out).2
  have hdl : (⟨true, xc, 0⟩ : Event).contract.legs.length ≤ dv := hdl0
  have HCL := Aside0.mk hcl0
  clear hcl0 hdl0
  by_cases hok : evOk l = true
  · have HEV := Aside0.mk hok
    have hxe : (⟨true, xc, 0⟩ : Event) = evOf l := by rw [HE.out.2, HX.out, unconVal_yes (by rw [← HE.out.1]; exact hok)]
    have HXE := Aside0.mk hxe
    have HF : Aside0 (eventFault (⟨true, xc, 0⟩ : Event) = 0) := ⟨by
      have hu1 : unconOk D = true := by rw [← HE.out.1]; exact hok
      rw [hxe, HE.out.2]
      simp only [unconOk, Bool.and_eq_true, decide_eq_true_eq] at hu1
      simp [eventFault, hu1.2]⟩
    have HPX : Aside0 (packEv (⟨true, xc, 0⟩ : Event) = l) := ⟨by rw [hxe]; exact HPK.out hok⟩
    have HLN : Aside0 ((⟨true, xc, 0⟩ : Event).contract.legs.length ≤ 8) := ⟨evF_len HF.out⟩
    clear hxe hok
    refine start_ (n := 12) (S := fun w' => w'.cell? ⟨w.heap.size + 1, 0, none⟩ = some (Value.bool true) ∧ w'.cell? ⟨w.heap.size + 1, 1, none⟩ = some (Value.int IntKind.i64 xc.id) ∧ w'.cell? ⟨w.heap.size + 1, 2, none⟩ = some (Value.slice Av xc.legs.length dv) ∧ w'.cell? ⟨w.heap.size + 1, 3, none⟩ = some (Value.int IntKind.i64 0)) (ds := [10]) #[false, false, false, false, false, false, false, false, false, false, false, false] (by kernel_rfl) rfl rfl ⟨(blk_cell (blk_drew BC6.out) 0).trans rfl, (blk_cell (blk_drew BC6.out) 1).trans rfl, (blk_cell (blk_drew BC6.out) 2).trans rfl, (blk_cell (blk_drew BC6.out) 3).trans rfl⟩ (fun hHeld => ?_)
    refine with_tabW impl_unpackEvent_R7.tab impl_unpackEvent_R7.bits (fun HT_ HW_ => ?_)
    refine take_ (i := 0) (N := some 43) (v := ?_) (a' := ?_) #[true, false, false, false, false, false, false, false, false, false, false, false] rfl rfl (take_ofW HT_.out HW_.out (by kernel_rfl)) (fun _ _ _ h => h) (Or.inl ⟨by rfl, ?_⟩) hHeld ?_ ?_
    rotate_left
    · rintro w' ⟨s0, s1, s2, s3⟩
      go_simp
      with_reducible rfl
    rotate_left
    · simp only [Act.put, List.setIfInBounds_toArray, List.set_cons_zero, List.set_cons_succ]
      rfl
    refine take_ (i := 1) (N := some 44) (v := ?_) (a' := ?_) #[true, true, false, false, false, false, false, false, false, false, false, false] rfl rfl (take_ofW HT_.out HW_.out (by kernel_rfl)) (fun _ _ _ h => h) (Or.inl ⟨by rfl, ?_⟩) hHeld ?_ ?_
    rotate_left
    · rintro w' ⟨s0, s1, s2, s3⟩
      go_simp
      with_reducible rfl
    rotate_left
    · simp only [Act.put, List.setIfInBounds_toArray, List.set_cons_zero, List.set_cons_succ]
      rfl
    refine one_ (i := 2) (N := some 45) #[true, true, true, false, false, false, false, false, false, false, false, false] rfl rfl (one_of HT_.out (by kernel_rfl)) (by decide) (fun K hK => ?_)
    refine goes_ Try.func67 (by kernel_rfl) rfl #[.agg #[Value.bool true, Value.int IntKind.i64 xc.id, Value.slice Av xc.legs.length dv, Value.int IntKind.i64 0]] (by rfl) rfl rfl (by (try simp only [List.map_toArray, List.map_cons, List.map_nil]); first | done | rfl) ?_
    refine (impl_EventFault (⟨true, xc, 0⟩ : Event) _ _ (kEvent_mk (⟨true, xc, 0⟩ : Event) hdl (Kd.C_drew HCL.out)) (Nat.le_trans HLN.out (by decide))).mono ?_
    rintro e W7 ⟨rfl, hbw⟩
    rw [HF.out]
    have BR7 := Aside0.mk (blk_below (blk_drew BR6.out) hbw)
    have BC7 := Aside0.mk (blk_below (blk_drew BC6.out) hbw)
    have HO7 := Aside0.mk (Kd.R_below (Kd.R_drew HO6.out) hbw)
    have HB7 := Aside0.mk (below_step (below_drew1 HB6.out) hbw)
    have HCL7 := Aside0.mk (Kd.C_below (Kd.C_drew HCL.out) hbw)
    have hz7 : w.heap.size + 1 < W7.heap.size := blk_lt BC7.out
    have hz7b : w.heap.size < W7.heap.size := blk_lt BR7.out
    clear hbw
    refine ⟨_, rfl, ?_⟩
    refine hK.out _ _ ⟨(blk_cell BC7.out 0).trans rfl, (blk_cell BC7.out 1).trans rfl, (blk_cell BC7.out 2).trans rfl, (blk_cell BC7.out 3).trans rfl⟩ (fun hHeld => ?_)
    clear hK K
    refine norm_ (a' := ?_) ?_ ?_
    rotate_left
    · show Act.put _ (some 45) _ = _
      simp only [Act.put, List.setIfInBounds_toArray, List.set_cons_zero, List.set_cons_succ]
      rfl
    refine pure_ (i := 3) (N := some 46) (v := ?_) (a' := ?_) #[true, true, true, true, false, false, false, false, false, false, false, false] rfl rfl (any_of HT_.out (by kernel_rfl)) (fun _ _ _ h => h) (Or.inl ⟨by rfl, ?_⟩) ?_ ?_
    rotate_left
    · intro w'
      go_simp
      with_reducible rfl
    rotate_left
    · simp only [Act.put, List.setIfInBounds_toArray, List.set_cons_zero, List.set_cons_succ]
      rfl
    refine pure_ (i := 4) (N := some 47) (v := ?_) (a' := ?_) #[true, true, true, true, true, false, false, false, false, false, false, false] rfl rfl (any_of HT_.out (by kernel_rfl)) (fun _ _ _ h => h) (Or.inl ⟨by rfl, ?_⟩) ?_ ?_
    rotate_left
    · intro w'
      go_simp
      with_reducible rfl
    rotate_left
    · simp only [Act.put, List.setIfInBounds_toArray, List.set_cons_zero, List.set_cons_succ]
      rfl
    refine pure_ (i := 7) (N := some 50) (v := ?_) (a' := ?_) #[true, true, true, true, true, false, false, true, false, false, false, false] rfl rfl (any_of HT_.out (by kernel_rfl)) (fun _ _ _ h => h) (Or.inl ⟨by rfl, ?_⟩) ?_ ?_
    rotate_left
    · intro w'
      go_simp
      with_reducible rfl
    rotate_left
    · simp only [Act.put, List.setIfInBounds_toArray, List.set_cons_zero, List.set_cons_succ]
      rfl
    refine take_ (i := 5) (N := some 48) (v := ?_) (a' := ?_) #[true, true, true, true, true, true, false, true, false, false, false, false] rfl rfl (take_ofW HT_.out HW_.out (by kernel_rfl)) (fun _ _ _ h => h) (Or.inl ⟨by rfl, ?_⟩) hHeld ?_ ?_
    rotate_left
    · rintro w' ⟨s0, s1, s2, s3⟩
      go_simp
      with_reducible rfl
    rotate_left
    · simp only [Act.put, List.setIfInBounds_toArray, List.set_cons_zero, List.set_cons_succ]
      rfl
    refine one_ (i := 6) (N := some 49) #[true, true, true, true, true, true, true, true, false, false, false, false] rfl rfl (one_of HT_.out (by kernel_rfl)) (by decide) (fun K hK => ?_)
    refine goes_ Try.func69 (by kernel_rfl) rfl #[.agg #[Value.bool true, Value.int IntKind.i64 xc.id, Value.slice Av xc.legs.length dv, Value.int IntKind.i64 0]] (by rfl) rfl rfl (by (try simp only [List.map_toArray, List.map_cons, List.map_nil]); first | done | rfl) ?_
    refine (impl_packEvent (⟨true, xc, 0⟩ : Event) _ _ (kEvent_mk (⟨true, xc, 0⟩ : Event) hdl HCL7.out) HLN.out).mono ?_
    rintro e W8 ⟨⟨vp, rfl, hop⟩, hbw⟩
    obtain ⟨Ap, cp, ep, hlp, hCp⟩ := Kd.R_reads hop
    subst ep
    have HCP := Aside0.mk hCp
    have BR8 := Aside0.mk (blk_below BR7.out hbw)
    have BC8 := Aside0.mk (blk_below BC7.out hbw)
    have HO8 := Aside0.mk (Kd.R_below HO7.out hbw)
    have HB8 := Aside0.mk (below_step HB7.out hbw)
    have hz8 : w.heap.size + 1 < W8.heap.size := blk_lt BC8.out
    have hz8b : w.heap.size < W8.heap.size := blk_lt BR8.out
    clear hbw hop hCp
    refine ⟨_, rfl, ?_⟩
    refine hK.out _ _ ⟨(blk_cell BC8.out 0).trans rfl, (blk_cell BC8.out 1).trans rfl, (blk_cell BC8.out 2).trans rfl, (blk_cell BC8.out 3).trans rfl⟩ (fun hHeld => ?_)
    clear hK K
    refine norm_ (a' := ?_) ?_ ?_
    rotate_left
    · show Act.put _ (some 49) _ = _
      simp only [Act.put, List.setIfInBounds_toArray, List.set_cons_zero, List.set_cons_succ]
      rfl
    refine one_ (i := 8) (N := some 51) #[true, true, true, true, true, true, true, true, true, false, false, false] rfl rfl (one_of HT_.out (by kernel_rfl)) (by decide) (fun K hK => ?_)
    refine goes_ Try.func68 (by kernel_rfl) rfl #[.slice Ap (packEv (⟨true, xc, 0⟩ : Event)).length cp, .slice (some ad) l.length c] (by rfl) rfl rfl (by (try simp only [List.map_toArray, List.map_cons, List.map_nil]); first | done | rfl) ?_
    refine (bytes_Equal _ _ (packEv (⟨true, xc, 0⟩ : Event)) _ _ l _ HCP.out (Kd.C_below HC.out HB8.out) (by rw [HPX.out]; exact HY.out) HY.out).mono ?_
    rintro e w' ⟨rfl, rfl⟩
    rw [decide_eq_true HPX.out]
    refine ⟨_, rfl, ?_⟩
    refine hK.out _ _ ⟨(blk_cell BC8.out 0).trans rfl, (blk_cell BC8.out 1).trans rfl, (blk_cell BC8.out 2).trans rfl, (blk_cell BC8.out 3).trans rfl⟩ (fun hHeld => ?_)
    clear hK K
    refine norm_ (a' := ?_) ?_ ?_
    rotate_left
    · show Act.put _ (some 51) _ = _
      simp only [Act.put, List.setIfInBounds_toArray, List.set_cons_zero, List.set_cons_succ]
      rfl
    refine pure_ (i := 9) (N := some 52) (v := ?_) (a' := ?_) #[true, true, true, true, true, true, true, true, true, true, false, false] rfl rfl (any_of HT_.out (by kernel_rfl)) (fun _ _ _ h => h) (Or.inl ⟨by rfl, ?_⟩) ?_ ?_
    rotate_left
    · intro w'
      go_simp
      with_reducible rfl
    rotate_left
    · simp only [Act.put, List.setIfInBounds_toArray, List.set_cons_zero, List.set_cons_succ]
      rfl
    refine last_ (i := 10) (N := none) #[true, true, true, true, true, true, true, true, true, true, true, false] rfl rfl (one_of HT_.out (by kernel_rfl)) (by decide) (fun K hK => ?_)
    have hr0 := (blk_cell BR8.out 0).trans rfl
    have hr1 := (blk_cell BR8.out 1).trans rfl
    have hr2 := (blk_cell BR8.out 2).trans rfl
    have hr3 := (blk_cell BR8.out 3).trans rfl
    have hg0 := blk_frozen BR8.out 0
    have hg1 := blk_frozen BR8.out 1
    have hg2 := blk_frozen BR8.out 2
    have hg3 := blk_frozen BR8.out 3
    refine skip_ (w1 := ?_) (by rfl) rfl ?_ ?_
    rotate_left
    · go_simp
      rfl
    refine hK.out _ _ ?_
    clear hK K
    refine pure_ (i := 11) (N := some 3) (v := ?_) (a' := ?_) #[true, true, true, true, true, true, true, true, true, true, true, true] rfl rfl (any_of HT_.out (by kernel_rfl)) (fun _ _ _ h => h) (Or.inl ⟨by rfl, ?_⟩) ?_ ?_
    rotate_left
    · intro w'
      go_simp
      with_reducible rfl
    rotate_left
    · simp only [Act.put, List.setIfInBounds_toArray, List.set_cons_zero, List.set_cons_succ]
      rfl
    refine done_ (done_of HT_.out (by kernel_rfl)) ?_
    go_wp2
    refine bodyPost_ret (results_ct rfl _ _ w.heap.size 77 #[Value.bool true, Value.int IntKind.i64 xc.id, Value.slice Av xc.legs.length dv, Value.int IntKind.i64 0] (0, 0) _ rfl (by first | exact (blk_put (cs := #[Value.bool true, Value.int IntKind.i64 xc.id, Value.slice Av xc.legs.length dv, Value.int IntKind.i64 0]) (cs' := #[Value.bool true, Value.int IntKind.i64 xc.id, Value.slice Av xc.legs.length dv, Value.int IntKind.i64 0]) (blk_put (cs := #[Value.bool true, Value.int IntKind.i64 xc.id, Value.slice none 0 0, Value.int IntKind.i64 0]) (cs' := #[Value.bool true, Value.int IntKind.i64 xc.id, Value.slice Av xc.legs.length dv, Value.int IntKind.i64 0]) (blk_put (cs := #[Value.bool true, Value.int IntKind.i64 0, Value.slice none 0 0, Value.int IntKind.i64 0]) (cs' := #[Value.bool true, Value.int IntKind.i64 xc.id, Value.slice none 0 0, Value.int IntKind.i64 0]) (blk_put (cs := #[Value.bool false, Value.int IntKind.i64 0, Value.slice none 0 0, Value.int IntKind.i64 0]) (cs' := #[Value.bool true, Value.int IntKind.i64 0, Value.slice none 0 0, Value.int IntKind.i64 0]) BR8.out 0 _ rfl) 1 _ rfl) 2 _ rfl) 3 _ rfl) | exact blk_drew (blk_put (cs := #[Value.bool true, Value.int IntKind.i64 xc.id, Value.slice Av xc.legs.length dv, Value.int IntKind.i64 0]) (cs' := #[Value.bool true, Value.int IntKind.i64 xc.id, Value.slice Av xc.legs.length dv, Value.int IntKind.i64 0]) (blk_put (cs := #[Value.bool true, Value.int IntKind.i64 xc.id, Value.slice none 0 0, Value.int IntKind.i64 0]) (cs' := #[Value.bool true, Value.int IntKind.i64 xc.id, Value.slice Av xc.legs.length dv, Value.int IntKind.i64 0]) (blk_put (cs := #[Value.bool true, Value.int IntKind.i64 0, Value.slice none 0 0, Value.int IntKind.i64 0]) (cs' := #[Value.bool true, Value.int IntKind.i64 xc.id, Value.slice none 0 0, Value.int IntKind.i64 0]) (blk_put (cs := #[Value.bool false, Value.int IntKind.i64 0, Value.slice none 0 0, Value.int IntKind.i64 0]) (cs' := #[Value.bool true, Value.int IntKind.i64 0, Value.slice none 0 0, Value.int IntKind.i64 0]) BR8.out 0 _ rfl) 1 _ rfl) 2 _ rfl) 3 _ rfl)) Try.underlying77 rfl (by kernel_rfl)) rfl ?_
    refine ⟨⟨(⟨true, xc, 0⟩ : Event), Value.slice Av xc.legs.length dv, by rw [HEV.out] <;> rfl, fun _ => HXE.out, Kd.R_mono (ok := fun q => w.heap.size + 2 ≤ q) (by repeat (first | (with_reducible exact HO8.out) | ((with_reducible refine Kd.R_far ?_ ?ffa _); (case ffa => intro q hq; simp at hq ⊢; omega)) | (with_reducible refine Kd.R_alloc ?_ _) | (with_reducible refine Kd.R_drew ?_))) (fun _ _ => trivial)⟩, (by repeat (first | (with_reducible exact HB8.out) | (with_reducible refine below_alloc ?_ _) | (with_reducible refine below_drew1 ?_) | ((with_reducible refine below_set ?_ ?fle); (case fle => omega))))⟩
  · replace hok : evOk l = false := by simpa using hok
    have HEV := Aside0.mk hok
    have hxz : xc = ⟨0, []⟩ := by rw [HX.out, unconVal_no (by rw [← HE.out.1]; exact hok)]
    have t0 : (eventFault (⟨true, xc, 0⟩ : Event) == 0) = false := by rw [hxz]; decide
    have HLN : Aside0 ((⟨true, xc, 0⟩ : Event).contract.legs.length ≤ 8) := ⟨by rw [hxz]; simp⟩
    clear hxz hok
    refine start_ (n := 12) (S := fun w' => w'.cell? ⟨w.heap.size + 1, 0, none⟩ = some (Value.bool true) ∧ w'.cell? ⟨w.heap.size + 1, 1, none⟩ = some (Value.int IntKind.i64 xc.id) ∧ w'.cell? ⟨w.heap.size + 1, 2, none⟩ = some (Value.slice Av xc.legs.length dv) ∧ w'.cell? ⟨w.heap.size + 1, 3, none⟩ = some (Value.int IntKind.i64 0)) (ds := [10]) #[false, false, false, false, false, false, false, false, false, false, false, false] (by kernel_rfl) rfl rfl ⟨(blk_cell (blk_drew BC6.out) 0).trans rfl, (blk_cell (blk_drew BC6.out) 1).trans rfl, (blk_cell (blk_drew BC6.out) 2).trans rfl, (blk_cell (blk_drew BC6.out) 3).trans rfl⟩ (fun hHeld => ?_)
    refine with_tabW impl_unpackEvent_R7.tab impl_unpackEvent_R7.bits (fun HT_ HW_ => ?_)
    refine take_ (i := 0) (N := some 43) (v := ?_) (a' := ?_) #[true, false, false, false, false, false, false, false, false, false, false, false] rfl rfl (take_ofW HT_.out HW_.out (by kernel_rfl)) (fun _ _ _ h => h) (Or.inl ⟨by rfl, ?_⟩) hHeld ?_ ?_
    rotate_left
    · rintro w' ⟨s0, s1, s2, s3⟩
      go_simp
      with_reducible rfl
    rotate_left
    · simp only [Act.put, List.setIfInBounds_toArray, List.set_cons_zero, List.set_cons_succ]
      rfl
    refine take_ (i := 1) (N := some 44) (v := ?_) (a' := ?_) #[true, true, false, false, false, false, false, false, false, false, false, false] rfl rfl (take_ofW HT_.out HW_.out (by kernel_rfl)) (fun _ _ _ h => h) (Or.inl ⟨by rfl, ?_⟩) hHeld ?_ ?_
    rotate_left
    · rintro w' ⟨s0, s1, s2, s3⟩
      go_simp
      with_reducible rfl
    rotate_left
    · simp only [Act.put, List.setIfInBounds_toArray, List.set_cons_zero, List.set_cons_succ]
      rfl
    refine one_ (i := 2) (N := some 45) #[true, true, true, false, false, false, false, false, false, false, false, false] rfl rfl (one_of HT_.out (by kernel_rfl)) (by decide) (fun K hK => ?_)
    refine goes_ Try.func67 (by kernel_rfl) rfl #[.agg #[Value.bool true, Value.int IntKind.i64 xc.id, Value.slice Av xc.legs.length dv, Value.int IntKind.i64 0]] (by rfl) rfl rfl (by (try simp only [List.map_toArray, List.map_cons, List.map_nil]); first | done | rfl) ?_
    refine (impl_EventFault (⟨true, xc, 0⟩ : Event) _ _ (kEvent_mk (⟨true, xc, 0⟩ : Event) hdl (Kd.C_drew HCL.out)) (Nat.le_trans HLN.out (by decide))).mono ?_
    rintro e W7 ⟨rfl, hbw⟩
    have BR7 := Aside0.mk (blk_below (blk_drew BR6.out) hbw)
    have BC7 := Aside0.mk (blk_below (blk_drew BC6.out) hbw)
    have HO7 := Aside0.mk (Kd.R_below (Kd.R_drew HO6.out) hbw)
    have HB7 := Aside0.mk (below_step (below_drew1 HB6.out) hbw)
    have HCL7 := Aside0.mk (Kd.C_below (Kd.C_drew HCL.out) hbw)
    have hz7 : w.heap.size + 1 < W7.heap.size := blk_lt BC7.out
    have hz7b : w.heap.size < W7.heap.size := blk_lt BR7.out
    clear hbw
    refine ⟨_, rfl, ?_⟩
    refine hK.out _ _ ⟨(blk_cell BC7.out 0).trans rfl, (blk_cell BC7.out 1).trans rfl, (blk_cell BC7.out 2).trans rfl, (blk_cell BC7.out 3).trans rfl⟩ (fun hHeld => ?_)
    clear hK K
    refine norm_ (a' := ?_) ?_ ?_
    rotate_left
    · show Act.put _ (some 45) _ = _
      simp only [Act.put, List.setIfInBounds_toArray, List.set_cons_zero, List.set_cons_succ]
      rfl
    refine pure_ (i := 3) (N := some 46) (v := ?_) (a' := ?_) #[true, true, true, true, false, false, false, false, false, false, false, false] rfl rfl (any_of HT_.out (by kernel_rfl)) (fun _ _ _ h => h) (Or.inl ⟨by rfl, ?_⟩) ?_ ?_
    rotate_left
    · intro w'
      go_simp
      with_reducible rfl
    rotate_left
    · simp only [Act.put, List.setIfInBounds_toArray, List.set_cons_zero, List.set_cons_succ]
      rfl
    refine pure_ (i := 4) (N := some 47) (v := ?_) (a' := ?_) #[true, true, true, true, true, false, false, false, false, false, false, false] rfl rfl (any_of HT_.out (by kernel_rfl)) (fun _ _ _ h => h) (Or.inl ⟨by rfl, ?_⟩) ?_ ?_
    rotate_left
    · intro w'
      go_simp
      with_reducible rfl
    rotate_left
    · simp only [Act.put, List.setIfInBounds_toArray, List.set_cons_zero, List.set_cons_succ]
      rfl
    refine pure_ (i := 7) (N := some 50) (v := undef) (a' := ?_) #[true, true, true, true, true, false, false, true, false, false, false, false] rfl rfl (any_of HT_.out (by kernel_rfl)) (fun _ _ _ h => h) (Or.inr ⟨by rfl, rfl⟩) ?_ ?_
    rotate_left
    · simp only [Act.put, List.setIfInBounds_toArray, List.set_cons_zero, List.set_cons_succ]
      rfl
    refine take_ (i := 5) (N := some 48) (v := undef) (a' := ?_) #[true, true, true, true, true, true, false, true, false, false, false, false] rfl rfl (take_ofW HT_.out HW_.out (by kernel_rfl)) (fun _ _ _ h => h) (Or.inr ⟨by rfl, rfl⟩) hHeld ?_ ?_
    rotate_left
    · simp only [Act.put, List.setIfInBounds_toArray, List.set_cons_zero, List.set_cons_succ]
      rfl
    refine one_ (i := 6) (N := some 49) #[true, true, true, true, true, true, true, true, false, false, false, false] rfl rfl (one_of HT_.out (by kernel_rfl)) (by decide) (fun K hK => ?_)
    refine off_ (by rfl) ?_
    refine hK.out _ _ ⟨(blk_cell BC7.out 0).trans rfl, (blk_cell BC7.out 1).trans rfl, (blk_cell BC7.out 2).trans rfl, (blk_cell BC7.out 3).trans rfl⟩ (fun hHeld => ?_)
    clear hK K
    refine norm_ (a' := ?_) ?_ ?_
    rotate_left
    · show Act.put _ (some 49) _ = _
      simp only [Act.put, List.setIfInBounds_toArray, List.set_cons_zero, List.set_cons_succ]
      rfl
    refine one_ (i := 8) (N := some 51) #[true, true, true, true, true, true, true, true, true, false, false, false] rfl rfl (one_of HT_.out (by kernel_rfl)) (by decide) (fun K hK => ?_)
    refine off_ (by rfl) ?_
    refine hK.out _ _ ⟨(blk_cell BC7.out 0).trans rfl, (blk_cell BC7.out 1).trans rfl, (blk_cell BC7.out 2).trans rfl, (blk_cell BC7.out 3).trans rfl⟩ (fun hHeld => ?_)
    clear hK K
    refine norm_ (a' := ?_) ?_ ?_
    rotate_left
    · show Act.put _ (some 51) _ = _
      simp only [Act.put, List.setIfInBounds_toArray, List.set_cons_zero, List.set_cons_succ]
      rfl
    refine pure_ (i := 9) (N := some 52) (v := ?_) (a' := ?_) #[true, true, true, true, true, true, true, true, true, true, false, false] rfl rfl (any_of HT_.out (by kernel_rfl)) (fun _ _ _ h => h) (Or.inl ⟨by rfl, ?_⟩) ?_ ?_
    rotate_left
    · intro w'
      go_simp
      with_reducible rfl
    rotate_left
    · simp only [Act.put, List.setIfInBounds_toArray, List.set_cons_zero, List.set_cons_succ]
      rfl
    refine last_ (i := 10) (N := none) #[true, true, true, true, true, true, true, true, true, true, true, false] rfl rfl (one_of HT_.out (by kernel_rfl)) (by decide) (fun K hK => ?_)
    have hr0 := (blk_cell BR7.out 0).trans rfl
    have hr1 := (blk_cell BR7.out 1).trans rfl
    have hr2 := (blk_cell BR7.out 2).trans rfl
    have hr3 := (blk_cell BR7.out 3).trans rfl
    have hg0 := blk_frozen BR7.out 0
    have hg1 := blk_frozen BR7.out 1
    have hg2 := blk_frozen BR7.out 2
    have hg3 := blk_frozen BR7.out 3
    refine skip_ (w1 := ?_) (by rfl) rfl ?_ ?_
    rotate_left
    · go_simp
      rfl
    refine hK.out _ _ ?_
    clear hK K
    refine pure_ (i := 11) (N := some 3) (v := ?_) (a' := ?_) #[true, true, true, true, true, true, true, true, true, true, true, true] rfl rfl (any_of HT_.out (by kernel_rfl)) (fun _ _ _ h => h) (Or.inl ⟨by rfl, ?_⟩) ?_ ?_
    rotate_left
    · intro w'
      go_simp
      with_reducible rfl
    rotate_left
    · simp only [Act.put, List.setIfInBounds_toArray, List.set_cons_zero, List.set_cons_succ]
      rfl
    refine done_ (done_of HT_.out (by kernel_rfl)) ?_
    go_wp2
    refine bodyPost_ret (results_ct rfl _ _ w.heap.size 77 #[Value.bool true, Value.int IntKind.i64 xc.id, Value.slice Av xc.legs.length dv, Value.int IntKind.i64 0] (0, 0) _ rfl (by first | exact (blk_put (cs := #[Value.bool true, Value.int IntKind.i64 xc.id, Value.slice Av xc.legs.length dv, Value.int IntKind.i64 0]) (cs' := #[Value.bool true, Value.int IntKind.i64 xc.id, Value.slice Av xc.legs.length dv, Value.int IntKind.i64 0]) (blk_put (cs := #[Value.bool true, Value.int IntKind.i64 xc.id, Value.slice none 0 0, Value.int IntKind.i64 0]) (cs' := #[Value.bool true, Value.int IntKind.i64 xc.id, Value.slice Av xc.legs.length dv, Value.int IntKind.i64 0]) (blk_put (cs := #[Value.bool true, Value.int IntKind.i64 0, Value.slice none 0 0, Value.int IntKind.i64 0]) (cs' := #[Value.bool true, Value.int IntKind.i64 xc.id, Value.slice none 0 0, Value.int IntKind.i64 0]) (blk_put (cs := #[Value.bool false, Value.int IntKind.i64 0, Value.slice none 0 0, Value.int IntKind.i64 0]) (cs' := #[Value.bool true, Value.int IntKind.i64 0, Value.slice none 0 0, Value.int IntKind.i64 0]) BR7.out 0 _ rfl) 1 _ rfl) 2 _ rfl) 3 _ rfl) | exact blk_drew (blk_put (cs := #[Value.bool true, Value.int IntKind.i64 xc.id, Value.slice Av xc.legs.length dv, Value.int IntKind.i64 0]) (cs' := #[Value.bool true, Value.int IntKind.i64 xc.id, Value.slice Av xc.legs.length dv, Value.int IntKind.i64 0]) (blk_put (cs := #[Value.bool true, Value.int IntKind.i64 xc.id, Value.slice none 0 0, Value.int IntKind.i64 0]) (cs' := #[Value.bool true, Value.int IntKind.i64 xc.id, Value.slice Av xc.legs.length dv, Value.int IntKind.i64 0]) (blk_put (cs := #[Value.bool true, Value.int IntKind.i64 0, Value.slice none 0 0, Value.int IntKind.i64 0]) (cs' := #[Value.bool true, Value.int IntKind.i64 xc.id, Value.slice none 0 0, Value.int IntKind.i64 0]) (blk_put (cs := #[Value.bool false, Value.int IntKind.i64 0, Value.slice none 0 0, Value.int IntKind.i64 0]) (cs' := #[Value.bool true, Value.int IntKind.i64 0, Value.slice none 0 0, Value.int IntKind.i64 0]) BR7.out 0 _ rfl) 1 _ rfl) 2 _ rfl) 3 _ rfl)) Try.underlying77 rfl (by kernel_rfl)) rfl ?_
    refine ⟨⟨(⟨true, xc, 0⟩ : Event), Value.slice Av xc.legs.length dv, by rw [HEV.out] <;> rfl, fun h => absurd (HEV.out.symm.trans h) (by decide), Kd.R_mono (ok := fun q => w.heap.size + 2 ≤ q) (by repeat (first | (with_reducible exact HO7.out) | ((with_reducible refine Kd.R_far ?_ ?ffa _); (case ffa => intro q hq; simp at hq ⊢; omega)) | (with_reducible refine Kd.R_alloc ?_ _) | (with_reducible refine Kd.R_drew ?_))) (fun _ _ => trivial)⟩, (by repeat (first | (with_reducible exact HB7.out) | (with_reducible refine below_alloc ?_ _) | (with_reducible refine below_drew1 ?_) | ((with_reducible refine below_set ?_ ?fle); (case fle => omega))))⟩
set_option maxRecDepth 100000 in
set_option maxHeartbeats 3200000 in
theorem impl_unpackEvent_c (A : Option Addr) (c : Nat) (l : List Int) (w : World) (hC : Kd.C (Kd.int .u8) w A l.length l) (hlc : l.length ≤ c) (hb : Bytes l) (h10 : l.length = 10) (h2 : nthu8_ l 0 = 2) : Calls Try.prog 30 #[.slice A l.length c] w fun e w' => (∃ (x : Event) (v : Value), e = .returned (.tuple #[.agg #[.bool x.vote, .int .i64 x.contract.id, v, .int .i64 x.outcome], .bool (evOk l)]) ∧ (evOk l = true → x = evOf l) ∧ Kd.R kLeg 151 w' w.heap.size (fun _ => True) v x.contract.legs) ∧ Below w.heap.size w w' := by
  have HC := Aside0.mk hC; have HY := Aside0.mk hb; clear hC hb
  have HB := Aside0.mk (Below.refl w.heap.size w)
  have hu := Try.underlying75
  have hv := Try.underlying77
  have hcr := Try.underlying117
  obtain ⟨ad, e0, x0⟩ := nthu8 HC.out 0 (by rw [h10]; omega)
  subst e0
  have X0 : Aside0 (∀ w2, Below w.heap.size w w2 → w2.cell? ad = some (.int .u8 (nthu8_ l 0))) := ⟨fun w2 hb => by have := x0 w2 hb; simpa [atu8, Addr.add] using this⟩
  have hx0 := X0.out _ (below_alloc (below_alloc (Below.refl w.heap.size w) (Obj.cells #[Value.bool false, Value.int IntKind.i64 0, Value.slice none 0 0, Value.int IntKind.i64 0] 77)) (Obj.cells #[Value.bool false, Value.int IntKind.i64 0, Value.slice none 0 0, Value.int IntKind.i64 0] 77))
  clear x0
  have hpos : 0 < l.length := by rw [h10]; omega
  have hpk : evOk l = true → packEv (evOf l) = l := packEv_of l HY.out
  obtain ⟨Ac, hcut, hcC, hcl⟩ := cutMid (some ad) c l 1 9 1 9 rfl rfl (by omega) (by rw [h10]; omega) hlc
  have HCD := Aside0.mk (hcC _ HC.out); clear hcC
  have hml : (mid l 1 9).length = 8 := by rw [mid_len _ _ _ (by rw [h10]; omega)]
  have HML := Aside0.mk hml; clear hml
  have HE : Aside0 (evOk l = decide (eventFault (⟨false, ⟨signed (number (mid l 1 9)), []⟩, nthu8_ l 9⟩ : Event) = 0) ∧ evOf l = (⟨false, ⟨signed (number (mid l 1 9)), []⟩, nthu8_ l 9⟩ : Event)) := ⟨by simp [evOk, evOf, h2, h10], by simp [evOf, h2]⟩
  have HPK := Aside0.mk hpk
  obtain ⟨_, e9, x9⟩ := nthu8 HC.out 9 (by rw [h10]; omega)
  cases e9
  have X9 : Aside0 (∀ w2, Below w.heap.size w w2 → w2.cell? ⟨ad.block, ad.off + 9, none⟩ = some (.int .u8 (nthu8_ l 9))) := ⟨fun w2 hb => cell_add (by omega) (x9 w2 hb)⟩
  have b9 := (HY.out 9).1; have b9' := (HY.out 9).2
  have u9 : IntKind.i64.wrap (nthu8_ l 9) = nthu8_ l 9 := wrap_fits (by omega) (by omega)
  have t10 : ((l.length : Int) == 10) = true := by rw [h10]; rfl
  have l9 : 9 < l.length := by rw [h10]; omega
  have l9i : (9 : Int) < (l.length : Int) := by omega
  have hfi : ∀ (n : Int) (W : World), (Instr.field 120 (Value.agg #[Value.int .i64 0, Value.int .i64 n]) 1).run Try.prog W = .ok (.int .i64 n) W := fun n W => by kernel_rfl
  rw [h2] at hx0
  clear h10 h2 x9 hpk X0
  go_enter Try.func30, Try.ntmps30
  go_wp2
  have BR5 := Aside0.mk (blk_alloc (blk_new w (Obj.cells #[Value.bool false, Value.int IntKind.i64 0, Value.slice none 0 0, Value.int IntKind.i64 0] 77)) (Obj.cells #[Value.bool false, Value.int IntKind.i64 0, Value.slice none 0 0, Value.int IntKind.i64 0] 77))
  have BC5 := Aside0.mk (blk_new1 w (Obj.cells #[Value.bool false, Value.int IntKind.i64 0, Value.slice none 0 0, Value.int IntKind.i64 0] 77) (Obj.cells #[Value.bool false, Value.int IntKind.i64 0, Value.slice none 0 0, Value.int IntKind.i64 0] 77))
  have HB5 := Aside0.mk (below_alloc (below_alloc (Below.refl w.heap.size w) (Obj.cells #[Value.bool false, Value.int IntKind.i64 0, Value.slice none 0 0, Value.int IntKind.i64 0] 77)) (Obj.cells #[Value.bool false, Value.int IntKind.i64 0, Value.slice none 0 0, Value.int IntKind.i64 0] 77))
  generalize (w.alloc (Obj.cells #[Value.bool false, Value.int IntKind.i64 0, Value.slice none 0 0, Value.int IntKind.i64 0] 77)).alloc (Obj.cells #[Value.bool false, Value.int IntKind.i64 0, Value.slice none 0 0, Value.int IntKind.i64 0] 77) = W5 at BR5 BC5 HB5 ⊢
  clear hx0
  refine start_ (n := 11) (S := fun w' => w'.cell? ⟨ad.block, ad.off + 9, none⟩ = some (.int .u8 (nthu8_ l 9))) (ds := [10]) #[false, false, false, false, false, false, false, false, false, false, false] (by kernel_rfl) rfl rfl (X9.out _ (below_drew1 HB5.out)) (fun hHeld => ?_)
  refine with_tabW impl_unpackEvent_R6.tab impl_unpackEvent_R6.bits (fun HT_ HW_ => ?_)
  refine pure_ (i := 0) (N := some 33) (v := ?_) (a' := ?_) #[true, false, false, false, false, false, false, false, false, false, false] rfl rfl (any_of HT_.out (by kernel_rfl)) (fun _ _ _ h => h) (Or.inl ⟨by rfl, ?_⟩) ?_ ?_
  rotate_left
  · intro w'
    go_simp
    with_reducible rfl
  rotate_left
  · simp only [Act.put, List.setIfInBounds_toArray, List.set_cons_zero, List.set_cons_succ]
    rfl
  refine pure_ (i := 1) (N := some 34) (v := ?_) (a' := ?_) #[true, true, false, false, false, false, false, false, false, false, false] rfl rfl (any_of HT_.out (by kernel_rfl)) (fun _ _ _ h => h) (Or.inl ⟨by rfl, ?_⟩) ?_ ?_
  rotate_left
  · intro w'
    go_simp
    with_reducible rfl
  rotate_left
  · simp only [Act.put, List.setIfInBounds_toArray, List.set_cons_zero, List.set_cons_succ]
    rfl
  refine pure_ (i := 5) (N := some 38) (v := ?_) (a' := ?_) #[true, true, false, false, false, true, false, false, false, false, false] rfl rfl (any_of HT_.out (by kernel_rfl)) (fun _ _ _ h => h) (Or.inl ⟨by rfl, ?_⟩) ?_ ?_
  rotate_left
  · intro w'
    go_simp
    with_reducible rfl
  rotate_left
  · simp only [Act.put, List.setIfInBounds_toArray, List.set_cons_zero, List.set_cons_succ]
    rfl
  refine pure_ (i := 6) (N := some 39) (v := ?_) (a' := ?_) #[true, true, false, false, false, true, true, false, false, false, false] rfl rfl (any_of HT_.out (by kernel_rfl)) (fun _ _ _ h => h) (Or.inl ⟨by rfl, ?_⟩) ?_ ?_
  rotate_left
  · intro w'
    go_simp
    with_reducible rfl
  rotate_left
  · simp only [Act.put, List.setIfInBounds_toArray, List.set_cons_zero, List.set_cons_succ]
    rfl
  refine take_ (i := 7) (N := some 40) (v := ?_) (a' := ?_) #[true, true, false, false, false, true, true, true, false, false, false] rfl rfl (take_ofW HT_.out HW_.out (by kernel_rfl)) (fun _ _ _ h => h) (Or.inl ⟨by rfl, ?_⟩) hHeld ?_ ?_
  rotate_left
  · rintro w' s0
    go_simp
    with_reducible rfl
  rotate_left
  · simp only [Act.put, List.setIfInBounds_toArray, List.set_cons_zero, List.set_cons_succ]
    rfl
  refine pure_ (i := 8) (N := some 41) (v := ?_) (a' := ?_) #[true, true, false, false, false, true, true, true, true, false, false] rfl rfl (any_of HT_.out (by kernel_rfl)) (fun _ _ _ h => h) (Or.inl ⟨by rfl, ?_⟩) ?_ ?_
  rotate_left
  · intro w'
    go_simp
    with_reducible rfl
  rotate_left
  · simp only [Act.put, List.setIfInBounds_toArray, List.set_cons_zero, List.set_cons_succ]
    rfl
  refine one_ (i := 2) (N := some 35) #[true, true, true, false, false, true, true, true, true, false, false] rfl rfl (one_of HT_.out (by kernel_rfl)) (by decide) (fun K hK => ?_)
  refine goes_ Try.func66 (by kernel_rfl) rfl #[.slice Ac (mid l 1 9).length (c - 1)] (by rfl) rfl rfl (by (try simp only [List.map_toArray, List.map_cons, List.map_nil]); first | done | rfl) ?_
  refine (impl_UnpackNumber _ _ (mid l 1 9) _ (Kd.C_below HCD.out (below_drew1 HB5.out)) HML.out (HY.out.mid _ _)).mono ?_
  rintro e W1 ⟨rfl, hbw⟩
  have BR1 := Aside0.mk (blk_below (blk_drew BR5.out) hbw)
  have BC1 := Aside0.mk (blk_below (blk_drew BC5.out) hbw)
  have HB1 := Aside0.mk (below_step (below_drew1 HB5.out) hbw)
  have hz3 : w.heap.size + 1 < W1.heap.size := blk_lt BC1.out
  have hz2 : w.heap.size < W1.heap.size := (by omega)
  clear hbw
  refine ⟨_, rfl, ?_⟩
  refine hK.out _ _ (X9.out _ HB1.out) (fun hHeld => ?_)
  clear hK K
  refine norm_ (a' := ?_) ?_ ?_
  rotate_left
  · show Act.put _ (some 35) _ = _
    simp only [Act.put, List.setIfInBounds_toArray, List.set_cons_zero, List.set_cons_succ]
    rfl
  refine pure_ (i := 3) (N := some 36) (v := ?_) (a' := ?_) #[true, true, true, true, false, true, true, true, true, false, false] rfl rfl (any_of HT_.out (by kernel_rfl)) (fun _ _ _ h => h) (Or.inl ⟨by rfl, ?_⟩) ?_ ?_
  rotate_left
  · intro w'
    go_simp
    with_reducible rfl
  rotate_left
  · simp only [Act.put, List.setIfInBounds_toArray, List.set_cons_zero, List.set_cons_succ]
    rfl
  refine pure_ (i := 4) (N := some 37) (v := ?_) (a' := ?_) #[true, true, true, true, true, true, true, true, true, false, false] rfl rfl (any_of HT_.out (by kernel_rfl)) (fun _ _ _ h => h) (Or.inl ⟨by rfl, ?_⟩) ?_ ?_
  rotate_left
  · intro w'
    go_simp
    with_reducible rfl
  rotate_left
  · simp only [Act.put, List.setIfInBounds_toArray, List.set_cons_zero, List.set_cons_succ]
    rfl
  refine pure_ (i := 9) (N := some 42) (v := ?_) (a' := ?_) #[true, true, true, true, true, true, true, true, true, true, false] rfl rfl (any_of HT_.out (by kernel_rfl)) (fun _ _ _ h => h) (Or.inl ⟨by rfl, ?_⟩) ?_ ?_
  rotate_left
  · intro w'
    go_simp
    with_reducible rfl
  rotate_left
  · simp only [Act.put, List.setIfInBounds_toArray, List.set_cons_zero, List.set_cons_succ]
    rfl
  refine last_ (i := 10) (N := none) #[true, true, true, true, true, true, true, true, true, true, true] rfl rfl (one_of HT_.out (by kernel_rfl)) (by decide) (fun K hK => ?_)
  have hc0 := (blk_cell BC1.out 0).trans rfl
  have hc1 := (blk_cell BC1.out 1).trans rfl
  have hc2 := (blk_cell BC1.out 2).trans rfl
  have hc3 := (blk_cell BC1.out 3).trans rfl
  have hf0 := blk_frozen BC1.out 0
  have hf1 := blk_frozen BC1.out 1
  have hf2 := blk_frozen BC1.out 2
  have hf3 := blk_frozen BC1.out 3
  refine skip_ (w1 := ?_) (by rfl) rfl ?_ ?_
  rotate_left
  · go_simp
    rfl
  refine hK.out _ _ ?_
  clear hK K
  refine done_ (done_of HT_.out (by kernel_rfl)) ?_
  have BC6 := Aside0.mk (blk_put (cs := #[Value.bool false, Value.int IntKind.i64 (signed (number (mid l 1 9))), Value.slice none 0 0, Value.int IntKind.i64 0]) (cs' := #[Value.bool false, Value.int IntKind.i64 (signed (number (mid l 1 9))), Value.slice none 0 0, Value.int IntKind.i64 (nthu8_ l 9)]) (blk_put (cs := #[Value.bool false, Value.int IntKind.i64 (signed (number (mid l 1 9))), Value.slice none 0 0, Value.int IntKind.i64 0]) (cs' := #[Value.bool false, Value.int IntKind.i64 (signed (number (mid l 1 9))), Value.slice none 0 0, Value.int IntKind.i64 0]) (blk_put (cs := #[Value.bool false, Value.int IntKind.i64 0, Value.slice none 0 0, Value.int IntKind.i64 0]) (cs' := #[Value.bool false, Value.int IntKind.i64 (signed (number (mid l 1 9))), Value.slice none 0 0, Value.int IntKind.i64 0]) (blk_put (cs := #[Value.bool false, Value.int IntKind.i64 0, Value.slice none 0 0, Value.int IntKind.i64 0]) (cs' := #[Value.bool false, Value.int IntKind.i64 0, Value.slice none 0 0, Value.int IntKind.i64 0]) BC1.out 0 (Value.bool false) rfl) 1 (Value.int IntKind.i64 (signed (number (mid l 1 9)))) rfl) 2 (Value.slice none 0 0) rfl) 3 (Value.int IntKind.i64 (nthu8_ l 9)) rfl)
  have BR6 := Aside0.mk (blk_far (p := ⟨w.heap.size + 1, 3, none⟩) (blk_far (p := ⟨w.heap.size + 1, 2, none⟩) (blk_far (p := ⟨w.heap.size + 1, 1, none⟩) (blk_far (p := ⟨w.heap.size + 1, 0, none⟩) BR1.out (by simp) (Value.bool false)) (by simp) (Value.int IntKind.i64 (signed (number (mid l 1 9))))) (by simp) (Value.slice none 0 0)) (by simp) (Value.int IntKind.i64 (nthu8_ l 9)))
  have HB6 := Aside0.mk (below_set (g := w.heap.size + 1) (j := 3) (v := Value.int IntKind.i64 (nthu8_ l 9)) (below_set (g := w.heap.size + 1) (j := 2) (v := Value.slice none 0 0) (below_set (g := w.heap.size + 1) (j := 1) (v := Value.int IntKind.i64 (signed (number (mid l 1 9)))) (below_set (g := w.heap.size + 1) (j := 0) (v := Value.bool false) HB1.out (by omega)) (by omega)) (by omega)) (by omega))
  clear hc0 hc1 hc2 hc3 hf0 hf1 hf2 hf3 hz2 hz3 BC1 BR1 HB1
  go_wp2
  generalize ((((W1.setCell ⟨w.heap.size + 1, 0, none⟩ (Value.bool false)).setCell ⟨w.heap.size + 1, 1, none⟩ (Value.int IntKind.i64 (signed (number (mid l 1 9))))).setCell ⟨w.heap.size + 1, 2, none⟩ (Value.slice none 0 0)).setCell ⟨w.heap.size + 1, 3, none⟩ (Value.int IntKind.i64 (nthu8_ l 9))) = W6 at BC6 BR6 HB6 ⊢
  have HO6 : Aside0 (Kd.R kLeg 151 W6 w.heap.size (fun q => w.heap.size + 2 ≤ q) (.slice none 0 0) (⟨false, ⟨signed (number (mid l 1 9)), []⟩, nthu8_ l 9⟩ : Event).contract.legs) := ⟨Kd.R_nil _ _ _ _ _⟩
  have HCL : Aside0 (kLeg.C W6 none (⟨false, ⟨signed (number (mid l 1 9)), []⟩, nthu8_ l 9⟩ : Event).contract.legs.length (⟨false, ⟨signed (number (mid l 1 9)), []⟩, nthu8_ l 9⟩ : Event).contract.legs) := ⟨Kd.C_nil _ _⟩
  have hdl : (⟨false, ⟨signed (number (mid l 1 9)), []⟩, nthu8_ l 9⟩ : Event).contract.legs.length ≤ 0 := by simp
  have HLN : Aside0 ((⟨false, ⟨signed (number (mid l 1 9)), []⟩, nthu8_ l 9⟩ : Event).contract.legs.length ≤ 8) := ⟨by simp⟩
  by_cases hok : eventFault (⟨false, ⟨signed (number (mid l 1 9)), []⟩, nthu8_ l 9⟩ : Event) = 0
  · have HF := Aside0.mk hok
    have HEV : Aside0 (evOk l = true) := ⟨by rw [HE.out.1]; exact decide_eq_true hok⟩
    have HXE : Aside0 ((⟨false, ⟨signed (number (mid l 1 9)), []⟩, nthu8_ l 9⟩ : Event) = evOf l) := ⟨HE.out.2.symm⟩
    have HPX : Aside0 (packEv (⟨false, ⟨signed (number (mid l 1 9)), []⟩, nthu8_ l 9⟩ : Event) = l) := ⟨by rw [HXE.out]; exact HPK.out HEV.out⟩
    clear hok
    refine start_ (n := 12) (S := fun w' => w'.cell? ⟨w.heap.size + 1, 0, none⟩ = some (Value.bool false) ∧ w'.cell? ⟨w.heap.size + 1, 1, none⟩ = some (Value.int IntKind.i64 (signed (number (mid l 1 9)))) ∧ w'.cell? ⟨w.heap.size + 1, 2, none⟩ = some (Value.slice none 0 0) ∧ w'.cell? ⟨w.heap.size + 1, 3, none⟩ = some (Value.int IntKind.i64 (nthu8_ l 9))) (ds := [10]) #[false, false, false, false, false, false, false, false, false, false, false, false] (by kernel_rfl) rfl rfl ⟨(blk_cell (blk_drew BC6.out) 0).trans rfl, (blk_cell (blk_drew BC6.out) 1).trans rfl, (blk_cell (blk_drew BC6.out) 2).trans rfl, (blk_cell (blk_drew BC6.out) 3).trans rfl⟩ (fun hHeld => ?_)
    refine with_tabW impl_unpackEvent_R7.tab impl_unpackEvent_R7.bits (fun HT_ HW_ => ?_)
    refine take_ (i := 0) (N := some 43) (v := ?_) (a' := ?_) #[true, false, false, false, false, false, false, false, false, false, false, false] rfl rfl (take_ofW HT_.out HW_.out (by kernel_rfl)) (fun _ _ _ h => h) (Or.inl ⟨by rfl, ?_⟩) hHeld ?_ ?_
    rotate_left
    · rintro w' ⟨s0, s1, s2, s3⟩
      go_simp
      with_reducible rfl
    rotate_left
    · simp only [Act.put, List.setIfInBounds_toArray, List.set_cons_zero, List.set_cons_succ]
      rfl
    refine take_ (i := 1) (N := some 44) (v := ?_) (a' := ?_) #[true, true, false, false, false, false, false, false, false, false, false, false] rfl rfl (take_ofW HT_.out HW_.out (by kernel_rfl)) (fun _ _ _ h => h) (Or.inl ⟨by rfl, ?_⟩) hHeld ?_ ?_
    rotate_left
    · rintro w' ⟨s0, s1, s2, s3⟩
      go_simp
      with_reducible rfl
    rotate_left
    · simp only [Act.put, List.setIfInBounds_toArray, List.set_cons_zero, List.set_cons_succ]
      rfl
    refine one_ (i := 2) (N := some 45) #[true, true, true, false, false, false, false, false, false, false, false, false] rfl rfl (one_of HT_.out (by kernel_rfl)) (by decide) (fun K hK => ?_)
    refine goes_ Try.func67 (by kernel_rfl) rfl #[.agg #[Value.bool false, Value.int IntKind.i64 (signed (number (mid l 1 9))), Value.slice none 0 0, Value.int IntKind.i64 (nthu8_ l 9)]] (by rfl) rfl rfl (by (try simp only [List.map_toArray, List.map_cons, List.map_nil]); first | done | rfl) ?_
    refine (impl_EventFault (⟨false, ⟨signed (number (mid l 1 9)), []⟩, nthu8_ l 9⟩ : Event) _ _ (kEvent_mk (⟨false, ⟨signed (number (mid l 1 9)), []⟩, nthu8_ l 9⟩ : Event) hdl (Kd.C_drew HCL.out)) (Nat.le_trans HLN.out (by decide))).mono ?_
    rintro e W7 ⟨rfl, hbw⟩
    rw [HF.out]
    have BR7 := Aside0.mk (blk_below (blk_drew BR6.out) hbw)
    have BC7 := Aside0.mk (blk_below (blk_drew BC6.out) hbw)
    have HO7 := Aside0.mk (Kd.R_below (Kd.R_drew HO6.out) hbw)
    have HB7 := Aside0.mk (below_step (below_drew1 HB6.out) hbw)
    have HCL7 := Aside0.mk (Kd.C_below (Kd.C_drew HCL.out) hbw)
    have hz7 : w.heap.size + 1 < W7.heap.size := blk_lt BC7.out
    have hz7b : w.heap.size < W7.heap.size := blk_lt BR7.out
    clear hbw
    refine ⟨_, rfl, ?_⟩
    refine hK.out _ _ ⟨(blk_cell BC7.out 0).trans rfl, (blk_cell BC7.out 1).trans rfl, (blk_cell BC7.out 2).trans rfl, (blk_cell BC7.out 3).trans rfl⟩ (fun hHeld => ?_)
    clear hK K
    refine norm_ (a' := ?_) ?_ ?_
    rotate_left
    · show Act.put _ (some 45) _ = _
      simp only [Act.put, List.setIfInBounds_toArray, List.set_cons_zero, List.set_cons_succ]
      rfl
    refine pure_ (i := 3) (N := some 46) (v := ?_) (a' := ?_) #[true, true, true, true, false, false, false, false, false, false, false, false] rfl rfl (any_of HT_.out (by kernel_rfl)) (fun _ _ _ h => h) (Or.inl ⟨by rfl, ?_⟩) ?_ ?_
    rotate_left
    · intro w'
      go_simp
      with_reducible rfl
    rotate_left
    · simp only [Act.put, List.setIfInBounds_toArray, List.set_cons_zero, List.set_cons_succ]
      rfl
    refine pure_ (i := 4) (N := some 47) (v := ?_) (a' := ?_) #[true, true, true, true, true, false, false, false, false, false, false, false] rfl rfl (any_of HT_.out (by kernel_rfl)) (fun _ _ _ h => h) (Or.inl ⟨by rfl, ?_⟩) ?_ ?_
    rotate_left
    · intro w'
      go_simp
      with_reducible rfl
    rotate_left
    · simp only [Act.put, List.setIfInBounds_toArray, List.set_cons_zero, List.set_cons_succ]
      rfl
    refine pure_ (i := 7) (N := some 50) (v := ?_) (a' := ?_) #[true, true, true, true, true, false, false, true, false, false, false, false] rfl rfl (any_of HT_.out (by kernel_rfl)) (fun _ _ _ h => h) (Or.inl ⟨by rfl, ?_⟩) ?_ ?_
    rotate_left
    · intro w'
      go_simp
      with_reducible rfl
    rotate_left
    · simp only [Act.put, List.setIfInBounds_toArray, List.set_cons_zero, List.set_cons_succ]
      rfl
    refine take_ (i := 5) (N := some 48) (v := ?_) (a' := ?_) #[true, true, true, true, true, true, false, true, false, false, false, false] rfl rfl (take_ofW HT_.out HW_.out (by kernel_rfl)) (fun _ _ _ h => h) (Or.inl ⟨by rfl, ?_⟩) hHeld ?_ ?_
    rotate_left
    · rintro w' ⟨s0, s1, s2, s3⟩
      go_simp
      with_reducible rfl
    rotate_left
    · simp only [Act.put, List.setIfInBounds_toArray, List.set_cons_zero, List.set_cons_succ]
      rfl
    refine one_ (i := 6) (N := some 49) #[true, true, true, true, true, true, true, true, false, false, false, false] rfl rfl (one_of HT_.out (by kernel_rfl)) (by decide) (fun K hK => ?_)
    refine goes_ Try.func69 (by kernel_rfl) rfl #[.agg #[Value.bool false, Value.int IntKind.i64 (signed (number (mid l 1 9))), Value.slice none 0 0, Value.int IntKind.i64 (nthu8_ l 9)]] (by rfl) rfl rfl (by (try simp only [List.map_toArray, List.map_cons, List.map_nil]); first | done | rfl) ?_
    refine (impl_packEvent (⟨false, ⟨signed (number (mid l 1 9)), []⟩, nthu8_ l 9⟩ : Event) _ _ (kEvent_mk (⟨false, ⟨signed (number (mid l 1 9)), []⟩, nthu8_ l 9⟩ : Event) hdl HCL7.out) HLN.out).mono ?_
    rintro e W8 ⟨⟨vp, rfl, hop⟩, hbw⟩
    obtain ⟨Ap, cp, ep, hlp, hCp⟩ := Kd.R_reads hop
    subst ep
    have HCP := Aside0.mk hCp
    have BR8 := Aside0.mk (blk_below BR7.out hbw)
    have BC8 := Aside0.mk (blk_below BC7.out hbw)
    have HO8 := Aside0.mk (Kd.R_below HO7.out hbw)
    have HB8 := Aside0.mk (below_step HB7.out hbw)
    have hz8 : w.heap.size + 1 < W8.heap.size := blk_lt BC8.out
    have hz8b : w.heap.size < W8.heap.size := blk_lt BR8.out
    clear hbw hop hCp
    refine ⟨_, rfl, ?_⟩
    refine hK.out _ _ ⟨(blk_cell BC8.out 0).trans rfl, (blk_cell BC8.out 1).trans rfl, (blk_cell BC8.out 2).trans rfl, (blk_cell BC8.out 3).trans rfl⟩ (fun hHeld => ?_)
    clear hK K
    refine norm_ (a' := ?_) ?_ ?_
    rotate_left
    · show Act.put _ (some 49) _ = _
      simp only [Act.put, List.setIfInBounds_toArray, List.set_cons_zero, List.set_cons_succ]
      rfl
    refine one_ (i := 8) (N := some 51) #[true, true, true, true, true, true, true, true, true, false, false, false] rfl rfl (one_of HT_.out (by kernel_rfl)) (by decide) (fun K hK => ?_)
    refine goes_ Try.func68 (by kernel_rfl) rfl #[.slice Ap (packEv (⟨false, ⟨signed (number (mid l 1 9)), []⟩, nthu8_ l 9⟩ : Event)).length cp, .slice (some ad) l.length c] (by rfl) rfl rfl (by (try simp only [List.map_toArray, List.map_cons, List.map_nil]); first | done | rfl) ?_
    refine (bytes_Equal _ _ (packEv (⟨false, ⟨signed (number (mid l 1 9)), []⟩, nthu8_ l 9⟩ : Event)) _ _ l _ HCP.out (Kd.C_below HC.out HB8.out) (by rw [HPX.out]; exact HY.out) HY.out).mono ?_
    rintro e w' ⟨rfl, rfl⟩
    rw [decide_eq_true HPX.out]
    refine ⟨_, rfl, ?_⟩
    refine hK.out _ _ ⟨(blk_cell BC8.out 0).trans rfl, (blk_cell BC8.out 1).trans rfl, (blk_cell BC8.out 2).trans rfl, (blk_cell BC8.out 3).trans rfl⟩ (fun hHeld => ?_)
    clear hK K
    refine norm_ (a' := ?_) ?_ ?_
    rotate_left
    · show Act.put _ (some 51) _ = _
      simp only [Act.put, List.setIfInBounds_toArray, List.set_cons_zero, List.set_cons_succ]
      rfl
    refine pure_ (i := 9) (N := some 52) (v := ?_) (a' := ?_) #[true, true, true, true, true, true, true, true, true, true, false, false] rfl rfl (any_of HT_.out (by kernel_rfl)) (fun _ _ _ h => h) (Or.inl ⟨by rfl, ?_⟩) ?_ ?_
    rotate_left
    · intro w'
      go_simp
      with_reducible rfl
    rotate_left
    · simp only [Act.put, List.setIfInBounds_toArray, List.set_cons_zero, List.set_cons_succ]
      rfl
    refine last_ (i := 10) (N := none) #[true, true, true, true, true, true, true, true, true, true, true, false] rfl rfl (one_of HT_.out (by kernel_rfl)) (by decide) (fun K hK => ?_)
    have hr0 := (blk_cell BR8.out 0).trans rfl
    have hr1 := (blk_cell BR8.out 1).trans rfl
    have hr2 := (blk_cell BR8.out 2).trans rfl
    have hr3 := (blk_cell BR8.out 3).trans rfl
    have hg0 := blk_frozen BR8.out 0
    have hg1 := blk_frozen BR8.out 1
    have hg2 := blk_frozen BR8.out 2
    have hg3 := blk_frozen BR8.out 3
    refine skip_ (w1 := ?_) (by rfl) rfl ?_ ?_
    rotate_left
    · go_simp
      rfl
    refine hK.out _ _ ?_
    clear hK K
    refine pure_ (i := 11) (N := some 3) (v := ?_) (a' := ?_) #[true, true, true, true, true, true, true, true, true, true, true, true] rfl rfl (any_of HT_.out (by kernel_rfl)) (fun _ _ _ h => h) (Or.inl ⟨by rfl, ?_⟩) ?_ ?_
    rotate_left
    · intro w'
      go_simp
      with_reducible rfl
    rotate_left
    · simp only [Act.put, List.setIfInBounds_toArray, List.set_cons_zero, List.set_cons_succ]
      rfl
    refine done_ (done_of HT_.out (by kernel_rfl)) ?_
    go_wp2
    refine bodyPost_ret (results_ct rfl _ _ w.heap.size 77 #[Value.bool false, Value.int IntKind.i64 (signed (number (mid l 1 9))), Value.slice none 0 0, Value.int IntKind.i64 (nthu8_ l 9)] (0, 0) _ rfl (by first | exact (blk_put (cs := #[Value.bool false, Value.int IntKind.i64 (signed (number (mid l 1 9))), Value.slice none 0 0, Value.int IntKind.i64 0]) (cs' := #[Value.bool false, Value.int IntKind.i64 (signed (number (mid l 1 9))), Value.slice none 0 0, Value.int IntKind.i64 (nthu8_ l 9)]) (blk_put (cs := #[Value.bool false, Value.int IntKind.i64 (signed (number (mid l 1 9))), Value.slice none 0 0, Value.int IntKind.i64 0]) (cs' := #[Value.bool false, Value.int IntKind.i64 (signed (number (mid l 1 9))), Value.slice none 0 0, Value.int IntKind.i64 0]) (blk_put (cs := #[Value.bool false, Value.int IntKind.i64 0, Value.slice none 0 0, Value.int IntKind.i64 0]) (cs' := #[Value.bool false, Value.int IntKind.i64 (signed (number (mid l 1 9))), Value.slice none 0 0, Value.int IntKind.i64 0]) (blk_put (cs := #[Value.bool false, Value.int IntKind.i64 0, Value.slice none 0 0, Value.int IntKind.i64 0]) (cs' := #[Value.bool false, Value.int IntKind.i64 0, Value.slice none 0 0, Value.int IntKind.i64 0]) BR8.out 0 _ rfl) 1 _ rfl) 2 _ rfl) 3 _ rfl) | exact blk_drew (blk_put (cs := #[Value.bool false, Value.int IntKind.i64 (signed (number (mid l 1 9))), Value.slice none 0 0, Value.int IntKind.i64 0]) (cs' := #[Value.bool false, Value.int IntKind.i64 (signed (number (mid l 1 9))), Value.slice none 0 0, Value.int IntKind.i64 (nthu8_ l 9)]) (blk_put (cs := #[Value.bool false, Value.int IntKind.i64 (signed (number (mid l 1 9))), Value.slice none 0 0, Value.int IntKind.i64 0]) (cs' := #[Value.bool false, Value.int IntKind.i64 (signed (number (mid l 1 9))), Value.slice none 0 0, Value.int IntKind.i64 0]) (blk_put (cs := #[Value.bool false, Value.int IntKind.i64 0, Value.slice none 0 0, Value.int IntKind.i64 0]) (cs' := #[Value.bool false, Value.int IntKind.i64 (signed (number (mid l 1 9))), Value.slice none 0 0, Value.int IntKind.i64 0]) (blk_put (cs := #[Value.bool false, Value.int IntKind.i64 0, Value.slice none 0 0, Value.int IntKind.i64 0]) (cs' := #[Value.bool false, Value.int IntKind.i64 0, Value.slice none 0 0, Value.int IntKind.i64 0]) BR8.out 0 _ rfl) 1 _ rfl) 2 _ rfl) 3 _ rfl)) Try.underlying77 rfl (by kernel_rfl)) rfl ?_
    refine ⟨⟨(⟨false, ⟨signed (number (mid l 1 9)), []⟩, nthu8_ l 9⟩ : Event), Value.slice none 0 0, by rw [HEV.out] <;> rfl, fun _ => HXE.out, Kd.R_mono (ok := fun q => w.heap.size + 2 ≤ q) (by repeat (first | (with_reducible exact HO8.out) | ((with_reducible refine Kd.R_far ?_ ?ffa _); (case ffa => intro q hq; simp at hq ⊢; omega)) | (with_reducible refine Kd.R_alloc ?_ _) | (with_reducible refine Kd.R_drew ?_))) (fun _ _ => trivial)⟩, (by repeat (first | (with_reducible exact HB8.out) | (with_reducible refine below_alloc ?_ _) | (with_reducible refine below_drew1 ?_) | ((with_reducible refine below_set ?_ ?fle); (case fle => omega))))⟩
  · have HEV : Aside0 (evOk l = false) := ⟨by rw [HE.out.1]; exact decide_eq_false hok⟩
    have t0 : (eventFault (⟨false, ⟨signed (number (mid l 1 9)), []⟩, nthu8_ l 9⟩ : Event) == 0) = false := by simpa using hok
    clear hok
    refine start_ (n := 12) (S := fun w' => w'.cell? ⟨w.heap.size + 1, 0, none⟩ = some (Value.bool false) ∧ w'.cell? ⟨w.heap.size + 1, 1, none⟩ = some (Value.int IntKind.i64 (signed (number (mid l 1 9)))) ∧ w'.cell? ⟨w.heap.size + 1, 2, none⟩ = some (Value.slice none 0 0) ∧ w'.cell? ⟨w.heap.size + 1, 3, none⟩ = some (Value.int IntKind.i64 (nthu8_ l 9))) (ds := [10]) #[false, false, false, false, false, false, false, false, false, false, false, false] (by kernel_rfl) rfl rfl ⟨(blk_cell (blk_drew BC6.out) 0).trans rfl, (blk_cell (blk_drew BC6.out) 1).trans rfl, (blk_cell (blk_drew BC6.out) 2).trans rfl, (blk_cell (blk_drew BC6.out) 3).trans rfl⟩ (fun hHeld => ?_)
    refine with_tabW impl_unpackEvent_R7.tab impl_unpackEvent_R7.bits (fun HT_ HW_ => ?_)
    refine take_ (i := 0) (N := some 43) (v := ?_) (a' := ?_) #[true, false, false, false, false, false, false, false, false, false, false, false] rfl rfl (take_ofW HT_.out HW_.out (by kernel_rfl)) (fun _ _ _ h => h) (Or.inl ⟨by rfl, ?_⟩) hHeld ?_ ?_
    rotate_left
    · rintro w' ⟨s0, s1, s2, s3⟩
      go_simp
      with_reducible rfl
    rotate_left
    · simp only [Act.put, List.setIfInBounds_toArray, List.set_cons_zero, List.set_cons_succ]
      rfl
    refine take_ (i := 1) (N := some 44) (v := ?_) (a' := ?_) #[true, true, false, false, false, false, false, false, false, false, false, false] rfl rfl (take_ofW HT_.out HW_.out (by kernel_rfl)) (fun _ _ _ h => h) (Or.inl ⟨by rfl, ?_⟩) hHeld ?_ ?_
    rotate_left
    · rintro w' ⟨s0, s1, s2, s3⟩
      go_simp
      with_reducible rfl
    rotate_left
    · simp only [Act.put, List.setIfInBounds_toArray, List.set_cons_zero, List.set_cons_succ]
      rfl
    refine one_ (i := 2) (N := some 45) #[true, true, true, false, false, false, false, false, false, false, false, false] rfl rfl (one_of HT_.out (by kernel_rfl)) (by decide) (fun K hK => ?_)
    refine goes_ Try.func67 (by kernel_rfl) rfl #[.agg #[Value.bool false, Value.int IntKind.i64 (signed (number (mid l 1 9))), Value.slice none 0 0, Value.int IntKind.i64 (nthu8_ l 9)]] (by rfl) rfl rfl (by (try simp only [List.map_toArray, List.map_cons, List.map_nil]); first | done | rfl) ?_
    refine (impl_EventFault (⟨false, ⟨signed (number (mid l 1 9)), []⟩, nthu8_ l 9⟩ : Event) _ _ (kEvent_mk (⟨false, ⟨signed (number (mid l 1 9)), []⟩, nthu8_ l 9⟩ : Event) hdl (Kd.C_drew HCL.out)) (Nat.le_trans HLN.out (by decide))).mono ?_
    rintro e W7 ⟨rfl, hbw⟩
    have BR7 := Aside0.mk (blk_below (blk_drew BR6.out) hbw)
    have BC7 := Aside0.mk (blk_below (blk_drew BC6.out) hbw)
    have HO7 := Aside0.mk (Kd.R_below (Kd.R_drew HO6.out) hbw)
    have HB7 := Aside0.mk (below_step (below_drew1 HB6.out) hbw)
    have HCL7 := Aside0.mk (Kd.C_below (Kd.C_drew HCL.out) hbw)
    have hz7 : w.heap.size + 1 < W7.heap.size := blk_lt BC7.out
    have hz7b : w.heap.size < W7.heap.size := blk_lt BR7.out
    clear hbw
    refine ⟨_, rfl, ?_⟩
    refine hK.out _ _ ⟨(blk_cell BC7.out 0).trans rfl, (blk_cell BC7.out 1).trans rfl, (blk_cell BC7.out 2).trans rfl, (blk_cell BC7.out 3).trans rfl⟩ (fun hHeld => ?_)
    clear hK K
    refine norm_ (a' := ?_) ?_ ?_
    rotate_left
    · show Act.put _ (some 45) _ = _
      simp only [Act.put, List.setIfInBounds_toArray, List.set_cons_zero, List.set_cons_succ]
      rfl
    refine pure_ (i := 3) (N := some 46) (v := ?_) (a' := ?_) #[true, true, true, true, false, false, false, false, false, false, false, false] rfl rfl (any_of HT_.out (by kernel_rfl)) (fun _ _ _ h => h) (Or.inl ⟨by rfl, ?_⟩) ?_ ?_
    rotate_left
    · intro w'
      go_simp
      with_reducible rfl
    rotate_left
    · simp only [Act.put, List.setIfInBounds_toArray, List.set_cons_zero, List.set_cons_succ]
      rfl
    refine pure_ (i := 4) (N := some 47) (v := ?_) (a' := ?_) #[true, true, true, true, true, false, false, false, false, false, false, false] rfl rfl (any_of HT_.out (by kernel_rfl)) (fun _ _ _ h => h) (Or.inl ⟨by rfl, ?_⟩) ?_ ?_
    rotate_left
    · intro w'
      go_simp
      with_reducible rfl
    rotate_left
    · simp only [Act.put, List.setIfInBounds_toArray, List.set_cons_zero, List.set_cons_succ]
      rfl
    refine pure_ (i := 7) (N := some 50) (v := undef) (a' := ?_) #[true, true, true, true, true, false, false, true, false, false, false, false] rfl rfl (any_of HT_.out (by kernel_rfl)) (fun _ _ _ h => h) (Or.inr ⟨by rfl, rfl⟩) ?_ ?_
    rotate_left
    · simp only [Act.put, List.setIfInBounds_toArray, List.set_cons_zero, List.set_cons_succ]
      rfl
    refine take_ (i := 5) (N := some 48) (v := undef) (a' := ?_) #[true, true, true, true, true, true, false, true, false, false, false, false] rfl rfl (take_ofW HT_.out HW_.out (by kernel_rfl)) (fun _ _ _ h => h) (Or.inr ⟨by rfl, rfl⟩) hHeld ?_ ?_
    rotate_left
    · simp only [Act.put, List.setIfInBounds_toArray, List.set_cons_zero, List.set_cons_succ]
      rfl
    refine one_ (i := 6) (N := some 49) #[true, true, true, true, true, true, true, true, false, false, false, false] rfl rfl (one_of HT_.out (by kernel_rfl)) (by decide) (fun K hK => ?_)
    refine off_ (by rfl) ?_
    refine hK.out _ _ ⟨(blk_cell BC7.out 0).trans rfl, (blk_cell BC7.out 1).trans rfl, (blk_cell BC7.out 2).trans rfl, (blk_cell BC7.out 3).trans rfl⟩ (fun hHeld => ?_)
    clear hK K
    refine norm_ (a' := ?_) ?_ ?_
    rotate_left
    · show Act.put _ (some 49) _ = _
      simp only [Act.put, List.setIfInBounds_toArray, List.set_cons_zero, List.set_cons_succ]
      rfl
    refine one_ (i := 8) (N := some 51) #[true, true, true, true, true, true, true, true, true, false, false, false] rfl rfl (one_of HT_.out (by kernel_rfl)) (by decide) (fun K hK => ?_)
    refine off_ (by rfl) ?_
    refine hK.out _ _ ⟨(blk_cell BC7.out 0).trans rfl, (blk_cell BC7.out 1).trans rfl, (blk_cell BC7.out 2).trans rfl, (blk_cell BC7.out 3).trans rfl⟩ (fun hHeld => ?_)
    clear hK K
    refine norm_ (a' := ?_) ?_ ?_
    rotate_left
    · show Act.put _ (some 51) _ = _
      simp only [Act.put, List.setIfInBounds_toArray, List.set_cons_zero, List.set_cons_succ]
      rfl
    refine pure_ (i := 9) (N := some 52) (v := ?_) (a' := ?_) #[true, true, true, true, true, true, true, true, true, true, false, false] rfl rfl (any_of HT_.out (by kernel_rfl)) (fun _ _ _ h => h) (Or.inl ⟨by rfl, ?_⟩) ?_ ?_
    rotate_left
    · intro w'
      go_simp
      with_reducible rfl
    rotate_left
    · simp only [Act.put, List.setIfInBounds_toArray, List.set_cons_zero, List.set_cons_succ]
      rfl
    refine last_ (i := 10) (N := none) #[true, true, true, true, true, true, true, true, true, true, true, false] rfl rfl (one_of HT_.out (by kernel_rfl)) (by decide) (fun K hK => ?_)
    have hr0 := (blk_cell BR7.out 0).trans rfl
    have hr1 := (blk_cell BR7.out 1).trans rfl
    have hr2 := (blk_cell BR7.out 2).trans rfl
    have hr3 := (blk_cell BR7.out 3).trans rfl
    have hg0 := blk_frozen BR7.out 0
    have hg1 := blk_frozen BR7.out 1
    have hg2 := blk_frozen BR7.out 2
    have hg3 := blk_frozen BR7.out 3
    refine skip_ (w1 := ?_) (by rfl) rfl ?_ ?_
    rotate_left
    · go_simp
      rfl
    refine hK.out _ _ ?_
    clear hK K
    refine pure_ (i := 11) (N := some 3) (v := ?_) (a' := ?_) #[true, true, true, true, true, true, true, true, true, true, true, true] rfl rfl (any_of HT_.out (by kernel_rfl)) (fun _ _ _ h => h) (Or.inl ⟨by rfl, ?_⟩) ?_ ?_
    rotate_left
    · intro w'
      go_simp
      with_reducible rfl
    rotate_left
    · simp only [Act.put, List.setIfInBounds_toArray, List.set_cons_zero, List.set_cons_succ]
      rfl
    refine done_ (done_of HT_.out (by kernel_rfl)) ?_
    go_wp2
    refine bodyPost_ret (results_ct rfl _ _ w.heap.size 77 #[Value.bool false, Value.int IntKind.i64 (signed (number (mid l 1 9))), Value.slice none 0 0, Value.int IntKind.i64 (nthu8_ l 9)] (0, 0) _ rfl (by first | exact (blk_put (cs := #[Value.bool false, Value.int IntKind.i64 (signed (number (mid l 1 9))), Value.slice none 0 0, Value.int IntKind.i64 0]) (cs' := #[Value.bool false, Value.int IntKind.i64 (signed (number (mid l 1 9))), Value.slice none 0 0, Value.int IntKind.i64 (nthu8_ l 9)]) (blk_put (cs := #[Value.bool false, Value.int IntKind.i64 (signed (number (mid l 1 9))), Value.slice none 0 0, Value.int IntKind.i64 0]) (cs' := #[Value.bool false, Value.int IntKind.i64 (signed (number (mid l 1 9))), Value.slice none 0 0, Value.int IntKind.i64 0]) (blk_put (cs := #[Value.bool false, Value.int IntKind.i64 0, Value.slice none 0 0, Value.int IntKind.i64 0]) (cs' := #[Value.bool false, Value.int IntKind.i64 (signed (number (mid l 1 9))), Value.slice none 0 0, Value.int IntKind.i64 0]) (blk_put (cs := #[Value.bool false, Value.int IntKind.i64 0, Value.slice none 0 0, Value.int IntKind.i64 0]) (cs' := #[Value.bool false, Value.int IntKind.i64 0, Value.slice none 0 0, Value.int IntKind.i64 0]) BR7.out 0 _ rfl) 1 _ rfl) 2 _ rfl) 3 _ rfl) | exact blk_drew (blk_put (cs := #[Value.bool false, Value.int IntKind.i64 (signed (number (mid l 1 9))), Value.slice none 0 0, Value.int IntKind.i64 0]) (cs' := #[Value.bool false, Value.int IntKind.i64 (signed (number (mid l 1 9))), Value.slice none 0 0, Value.int IntKind.i64 (nthu8_ l 9)]) (blk_put (cs := #[Value.bool false, Value.int IntKind.i64 (signed (number (mid l 1 9))), Value.slice none 0 0, Value.int IntKind.i64 0]) (cs' := #[Value.bool false, Value.int IntKind.i64 (signed (number (mid l 1 9))), Value.slice none 0 0, Value.int IntKind.i64 0]) (blk_put (cs := #[Value.bool false, Value.int IntKind.i64 0, Value.slice none 0 0, Value.int IntKind.i64 0]) (cs' := #[Value.bool false, Value.int IntKind.i64 (signed (number (mid l 1 9))), Value.slice none 0 0, Value.int IntKind.i64 0]) (blk_put (cs := #[Value.bool false, Value.int IntKind.i64 0, Value.slice none 0 0, Value.int IntKind.i64 0]) (cs' := #[Value.bool false, Value.int IntKind.i64 0, Value.slice none 0 0, Value.int IntKind.i64 0]) BR7.out 0 _ rfl) 1 _ rfl) 2 _ rfl) 3 _ rfl)) Try.underlying77 rfl (by kernel_rfl)) rfl ?_
    refine ⟨⟨(⟨false, ⟨signed (number (mid l 1 9)), []⟩, nthu8_ l 9⟩ : Event), Value.slice none 0 0, by rw [HEV.out] <;> rfl, fun h => absurd (HEV.out.symm.trans h) (by decide), Kd.R_mono (ok := fun q => w.heap.size + 2 ≤ q) (by repeat (first | (with_reducible exact HO7.out) | ((with_reducible refine Kd.R_far ?_ ?ffa _); (case ffa => intro q hq; simp at hq ⊢; omega)) | (with_reducible refine Kd.R_alloc ?_ _) | (with_reducible refine Kd.R_drew ?_))) (fun _ _ => trivial)⟩, (by repeat (first | (with_reducible exact HB7.out) | (with_reducible refine below_alloc ?_ _) | (with_reducible refine below_drew1 ?_) | ((with_reducible refine below_set ?_ ?fle); (case fle => omega))))⟩
theorem impl_unpackEvent (A : Option Addr) (c : Nat) (l : List Int) (w : World) (hC : Kd.C (Kd.int .u8) w A l.length l) (hlc : l.length ≤ c) (hb : Bytes l) : Calls Try.prog 30 #[.slice A l.length c] w fun e w' => (∃ (x : Event) (v : Value), e = .returned (.tuple #[.agg #[.bool x.vote, .int .i64 x.contract.id, v, .int .i64 x.outcome], .bool (evOk l)]) ∧ (evOk l = true → x = evOf l) ∧ Kd.R kLeg 151 w' w.heap.size (fun _ => True) v x.contract.legs) ∧ Below w.heap.size w w' := by
  by_cases h0 : l.length = 0
  · exact impl_unpackEvent_a A c l w hC hlc hb h0
  · by_cases h1 : nthu8_ l 0 = 1
    · exact impl_unpackEvent_b A c l w hC hlc hb h0 h1
    · by_cases h2 : l.length = 10 ∧ nthu8_ l 0 = 2
      · exact impl_unpackEvent_c A c l w hC hlc hb h2.1 h2.2
      · exact impl_unpackEvent_d A c l w hC hlc hb h0 h1 h2

end Go.Proofs.Ytjlhdhbnaagajaa.J
