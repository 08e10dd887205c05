/- What stays known through the law's steps. -/
import Derived.Test.YtjlhdhbnaagajaaImplL
import Derived.Test.YtjlhdhbnaagajaaMarkT
import Derived.Test.YtjlhdhbnaagajaaToJ
namespace Go.Proofs.Ytjlhdhbnaagajaa.J
open Go.RowKit Go.Proofs.YtjlhdhbnaagajaaW.PrintWords Go.Proofs.YtjlhdhbnaagajaaW.PrintLast Go.Proofs.YtjlhdhbnaagajaaW.PrintMore
set_option linter.unusedVariables false
set_option linter.unusedSimpArgs false

/-! What a good journal's events are like, and what stays known through the law's steps. -/
theorem evOk_len {l : List Int} (h : evOk l = true) : (evOf l).contract.legs.length ≤ 8 := by
  simp only [evOk, Bool.and_eq_true, decide_eq_true_eq] at h
  obtain ⟨_, h1⟩ := h
  by_cases hv : nthu8_ l 0 = 1
  · rw [if_pos hv] at h1
    rw [evOf, if_pos hv]
    simp only [unconOk, Bool.and_eq_true, decide_eq_true_eq] at h1
    exact conF_len h1.2
  · rw [evOf, if_neg hv]
    exact Nat.zero_le _
theorem events_len (L : List Int) : (eventsOf L).2.length ≤ 60 ∧ ∀ e ∈ (eventsOf L).2, e.contract.legs.length ≤ 8 := by
  unfold eventsOf
  split
  · exact ⟨Nat.zero_le _, fun e he => by cases he⟩
  · split
    · exact ⟨Nat.zero_le _, fun e he => by cases he⟩
    · split
      · exact ⟨Nat.zero_le _, fun e he => by cases he⟩
      · split
        · exact ⟨Nat.zero_le _, fun e he => by cases he⟩
        · rename_i h1 h2 h3 h4
          refine ⟨by simp; omega, fun e he => ?_⟩
          obtain ⟨r, hr, rfl⟩ := List.mem_map.1 he
          replace h2 : (recs L).1.all evOk = true := by simpa using h2
          rw [List.all_eq_true] at h2
          exact evOk_len (h2 r hr)
theorem events_fits (cd : Int) (l : List Event) (h0 : l.length ≤ 60) (h1 : ∀ e ∈ l, e.contract.legs.length ≤ 8) : (⟨cd, l⟩ : EventsRes).fits := by
  refine ⟨by show l.length ≤ _; omega, fun i => ?_⟩
  show (nthEvent_ l i).contract.legs.length ≤ _
  unfold nthEvent_
  rw [List.getD_eq_getElem?_getD]
  cases hi : l[i]? with
  | none => simp [zEvent, zContract]
  | some e => have := h1 e (List.mem_of_getElem? hi); simp; omega
theorem cntEventS_le (l : List Event) (h1 : ∀ e ∈ l, e.contract.legs.length ≤ 8) : cntEventS l ≤ 35 * l.length := by
  induction l with
  | nil => simp [cntEventS]
  | cons e r ih =>
    have a := ih (fun x hx => h1 x (List.mem_cons_of_mem _ hx))
    have b := h1 e List.mem_cons_self
    simp only [cntEventS, List.map_cons, List.sum_cons, List.length_cons] at a ⊢
    have c : cntEvent e ≤ 35 := by simp only [cntEvent, cntLegS]; omega
    omega
theorem bytes_append {a b : List Int} (ha : Bytes a) (hb : Bytes b) : Bytes (a ++ b) := fun i => by
  by_cases h : i < a.length
  · have e : nthu8_ (a ++ b) i = nthu8_ a i := by simp [nthu8_, List.getElem?_append_left h]
    rw [e]; exact ha i
  · have e : nthu8_ (a ++ b) i = nthu8_ b (i - a.length) := by simp [nthu8_, List.getElem?_append_right (by omega : a.length ≤ i)]
    rw [e]; exact hb _
/-- The journal that came in, the reference's answer (block b4) and the program's (block b6) lie as they lay. -/
structure Eb (w : World) (cx : Array Value) (b4 b5 b6 : Nat) (v4 v6 : Value) (cd : Int) (l4 l6 : List Event) (W : World) : Prop where
  bel : Below w.heap.size w W
  j : W.heap[w.heap.size]? = some (.cells cx 27 (0, 0))
  e4 : W.heap[b4]? = some (.cells #[.int .i64 cd, v4] 31 (0, 0))
  s4 : Kd.S kEvent 77 W w.heap.size (fun q => w.heap.size < q ∧ q < b4) v4 l4
  e6 : W.heap[b6]? = some (.cells #[.int .i64 cd, v6] 31 (0, 0))
  s6 : Kd.S kEvent 77 W w.heap.size (fun q => b5 < q ∧ q < b6) v6 l6
  o1 : w.heap.size < b4
  o2 : b4 < b5
  o3 : b5 < b6
theorem Eb.below {w W W' : World} {cx : Array Value} {b4 b5 b6 : Nat} {v4 v6 : Value} {cd : Int} {l4 l6 : List Event} (h : Eb w cx b4 b5 b6 v4 v6 cd l4 l6 W) (hb : Below W.heap.size W W') : Eb w cx b4 b5 b6 v4 v6 cd l4 l6 W' :=
  ⟨below_step h.bel hb, blk_below h.j hb, blk_below h.e4 hb, Kd.S_below h.s4 hb, blk_below h.e6 hb, Kd.S_below h.s6 hb, h.o1, h.o2, h.o3⟩
theorem Eb.kept {w W W' : World} {cx : Array Value} {b4 b5 b6 : Nat} {v4 v6 : Value} {cd : Int} {l4 l6 : List Event} (h : Eb w cx b4 b5 b6 v4 v6 cd l4 l6 W) (hb : Below w.heap.size w W') {S : Nat → Prop} (hk : Kept W W' S) (hS : ∀ q, S q → b4 < q ∧ q < b5) : Eb w cx b4 b5 b6 v4 v6 cd l4 l6 W' :=
  ⟨hb, blk_kept h.j hk (fun hs => by have := hS _ hs; have := h.o1; omega), blk_kept h.e4 hk (fun hs => by have := hS _ hs; omega), Kd.S_kept h.s4 hk (fun q hq hs => by have := hS _ hs; omega), blk_kept h.e6 hk (fun hs => by have := hS _ hs; have := h.o3; omega), Kd.S_kept h.s6 hk (fun q hq hs => by have := hS _ hs; omega), h.o1, h.o2, h.o3⟩
theorem Eb.marked {w W W' : World} {cx : Array Value} {b4 b5 b6 : Nat} {v4 v6 : Value} {cd : Int} {l4 l6 l6' : List Event} (h : Eb w cx b4 b5 b6 v4 v6 cd l4 l6 W) (hb : Below w.heap.size w W') (hk : Kept W W' (fun q => b5 < q ∧ q < b6)) (hs : Kd.S kEvent 77 W' w.heap.size (fun q => b5 < q ∧ q < b6) v6 l6') : Eb w cx b4 b5 b6 v4 v6 cd l4 l6' W' :=
  ⟨hb, blk_kept h.j hk (fun hs => by have := h.o1; have := h.o2; omega), blk_kept h.e4 hk (fun hs => by have := h.o2; omega), Kd.S_kept h.s4 hk (fun q hq hs => by have := h.o2; omega), blk_kept h.e6 hk (fun hs => by omega), hs, h.o1, h.o2, h.o3⟩

end Go.Proofs.Ytjlhdhbnaagajaa.J
