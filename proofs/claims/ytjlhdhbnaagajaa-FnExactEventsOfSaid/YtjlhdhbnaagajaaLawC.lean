/- The law FnExactEventsOf holds: whatever the journal, it answers true, and the journal reads as it read. No condition. -/
import Derived.Test.YtjlhdhbnaagajaaLawB
import Derived.Test.YtjlhdhbnaagajaaRows
import Derived.ProofKit
import Derived.OpenShut
import Derived.ShutString
import Derived.ChangeOld
import Derived.Deep.Slices
import Derived.Deep.Fields
import Derived.ChangeSame
namespace Go.Proofs.Ytjlhdhbnaagajaa.J
open Go.RowKit Go.Proofs.YtjlhdhbnaagajaaW.PrintWords Go.Proofs.YtjlhdhbnaagajaaW.PrintLast Go.Proofs.YtjlhdhbnaagajaaW.PrintMore
set_option linter.unusedVariables false
set_option linter.unusedSimpArgs false
open Go.ChangeShapes Go.WideShapes Go.ChangeAt Go.Deep
/-! How an argument that came in is opened, whatever its kind. -/
section
variable {H : Type} {enc : TypeId × Value → H} {P : Program} {w : World} {base : Nat} {spare : Nat → Bool} {held : Bool}
theorem down_slice {α : Type} [Inhabited α] (d : Kd α) (Q : α → Prop) {t e : TypeId} (e' : Nat) (ht : P.underlying t = some (.slice e)) (hC : P.cellsOf e = d.sz) (hd : ∀ n cs x, DataW.trod enc P w base spare held n e cs = some x → ∃ a, d.K w a cs ∧ Q a) {fuel : Nat} {cs : List Value} {x : DataW H × List MemPlace} (h : DataW.trod enc P w base spare held fuel t cs = some x) :
    ∃ l : List α, (Kd.slice e' d).K w l cs ∧ ∀ a ∈ l, Q a := by
  rcases open_slice ht h with ⟨rfl, _⟩ | ⟨a, len, cap, m, n, D, Pl, rfl, hb, hl, hm, hmm, rfl, hx⟩
  · exact ⟨[], ⟨none, 0, rfl, Nat.le_refl _, Kd.C_nil d w⟩, fun a ha => by cases ha⟩
  · have hlm : len ≤ m := by rw [hmm]; split <;> omega
    obtain ⟨f, hf⟩ := choose_lt (α := α) (p := fun i v => (∃ c, c.length = d.sz ∧ d.K w v c ∧ ∀ j u, c[j]? = some u → w.cell? (a.add (i * d.sz + j)) = some u) ∧ Q v) (n := len) (fun i hi => by
      obtain ⟨c, h1, h2⟩ := hx i (by omega)
      obtain ⟨_, hcl, hat⟩ := World.cells?_some h1
      obtain ⟨v, hv, hq⟩ := hd _ _ _ h2
      rw [hC] at hcl hat
      refine ⟨v, ⟨c, hcl, hv, fun j u hu => ?_⟩, hq⟩
      have hj : j < d.sz := by rw [← hcl]; exact (List.getElem?_eq_some_iff.1 hu).1
      rw [← Go.Deep.add_add, hat j hj, hu])
    refine ⟨(List.range len).map f, ⟨some a, cap, by simp, by simpa using hl, by simp, by unfold maxLen at hm; simp; omega, fun hn => ⟨a, rfl, fun j p hj => ?_⟩⟩, fun b hb => ?_⟩
    · obtain ⟨h1, h2⟩ := List.getElem?_eq_some_iff.1 hj
      simp only [List.length_map, List.length_range] at h1
      simp only [List.getElem_map, List.getElem_range] at h2
      subst h2
      exact (hf j h1).1
    · obtain ⟨i, hi, rfl⟩ := List.mem_map.1 hb
      exact (hf i (List.mem_range.1 hi)).2
theorem down_int {k : IntKind} {t : TypeId} (ht : P.underlying t = some (.int k)) {fuel : Nat} {cs : List Value} {x : DataW H × List MemPlace} (h : DataW.trod enc P w base spare held fuel t cs = some x) : ∃ n : Int, (Kd.int k).K w n cs ∧ (Lit.int k n).wf = true := by
  obtain ⟨n, rfl, _, hw⟩ := DataW.trod_int ht h
  exact ⟨n, rfl, hw⟩
theorem down_fields {t : TypeId} {fs : Array Field} {fuel : Nat} {cs : List Value} {x : DataW H × List MemPlace} (ht : P.underlying t = some (.struct fs)) (h : DataW.trod enc P w base spare held fuel t cs = some x) :
    cs.length = P.cellsOf t ∧ ∃ n, ∀ (i : Nat) (f : Field), fs[i]? = some f → ∃ y, DataW.trod enc P w base spare held n f.type ((cs.drop f.offset).take (P.cellsOf f.type)) = some y := by
  obtain ⟨xs, n, _, _, hcl, hxl, hg⟩ := DataW.trod_struct ht h
  refine ⟨hcl, n, fun i f hf => ?_⟩
  have hi : i < xs.length := by rw [hxl]; exact (Array.getElem?_eq_some_iff.1 hf).1
  exact ⟨_, (hg i f hf).trans (List.getElem?_eq_getElem hi)⟩
end
theorem len2 {cs : List Value} (h : cs.length = 2) : ∃ a b, cs = [a, b] := by
  match cs, h with
  | [a, b], _ => exact ⟨a, b, rfl⟩
theorem len3 {cs : List Value} (h : cs.length = 3) : ∃ a b c, cs = [a, b, c] := by
  match cs, h with
  | [a, b, c], _ => exact ⟨a, b, c, rfl⟩
theorem len4 {cs : List Value} (h : cs.length = 4) : ∃ a b c d, cs = [a, b, c, d] := by
  match cs, h with
  | [a, b, c, d], _ => exact ⟨a, b, c, d, rfl⟩
instance : Inhabited Balance := ⟨zBalance⟩
section
variable {H : Type} {enc : TypeId × Value → H} {w : World} {base : Nat} {spare : Nat → Bool} {held : Bool}
theorem cells64 : Try.prog.cellsOf 2 = 1 := by kernel_rfl
theorem cellsu8 : Try.prog.cellsOf 5 = 1 := by kernel_rfl
theorem down_Balance {fuel : Nat} {cs : List Value} {x : DataW H × List MemPlace} (h : DataW.trod enc Try.prog w base spare held fuel 112 cs = some x) : ∃ a : Balance, kBalance.K w a cs ∧ True := by
  obtain ⟨hcl, n, hg⟩ := down_fields Try.underlying112 h
  have hc : Try.prog.cellsOf 112 = 3 := by kernel_rfl
  obtain ⟨u0, u1, u2, rfl⟩ := len3 (hcl.trans hc)
  obtain ⟨y0, g0⟩ := hg 0 _ rfl
  obtain ⟨y1, g1⟩ := hg 1 _ rfl
  obtain ⟨y2, g2⟩ := hg 2 _ rfl
  simp only [List.getElem_toArray, List.getElem_cons_zero, List.getElem_cons_succ, cells64, List.drop_zero, List.drop_succ_cons, List.take_succ_cons, List.take_zero] at g0 g1 g2
  obtain ⟨n0, e0, _⟩ := down_int Try.underlying2 g0
  obtain ⟨n1, e1, _⟩ := down_int Try.underlying2 g1
  obtain ⟨n2, e2, _⟩ := down_int Try.underlying2 g2
  replace e0 : [u0] = [Value.int .i64 n0] := e0
  replace e1 : [u1] = [Value.int .i64 n1] := e1
  replace e2 : [u2] = [Value.int .i64 n2] := e2
  injection e0 with e0; injection e1 with e1; injection e2 with e2
  subst e0 e1 e2
  exact ⟨⟨n0, n1, n2⟩, kBalance_mk ⟨n0, n1, n2⟩, trivial⟩
theorem down_bytes {fuel : Nat} {cs : List Value} {x : DataW H × List MemPlace} (h : DataW.trod enc Try.prog w base spare held fuel 23 cs = some x) : ∃ l : List Int, (Kd.slice 5 (Kd.int .u8)).K w l cs ∧ Bytes l := by
  obtain ⟨l, hl, hq⟩ := down_slice (Kd.int .u8) (fun n => 0 ≤ n ∧ n < 256) 5 Try.underlying23 cellsu8 (fun n cs x h => by
    obtain ⟨a, ha, hw⟩ := down_int Try.underlying5 h
    refine ⟨a, ha, ?_⟩
    have e0 : IntKind.u8.min = 0 := by decide
    have e1 : IntKind.u8.max = 255 := by decide
    simp [Lit.wf, e0, e1] at hw
    omega) h
  refine ⟨l, hl, fun i => ?_⟩
  unfold nthu8_
  rw [List.getD_eq_getElem?_getD]
  cases hi : l[i]? with
  | none => simp
  | some v => simpa using hq v (List.mem_of_getElem? hi)
theorem down_Log {fuel : Nat} {cs : List Value} {x : DataW H × List MemPlace} (h : DataW.trod enc Try.prog w base spare held fuel 25 cs = some x) : ∃ a : Log, kLog.K w a cs ∧ Bytes a.synced ∧ Bytes a.loose := by
  obtain ⟨hcl, n, hg⟩ := down_fields Try.underlying25 h
  have hc : Try.prog.cellsOf 25 = 2 := by kernel_rfl
  have hs : Try.prog.cellsOf 23 = 1 := by kernel_rfl
  obtain ⟨u0, u1, rfl⟩ := len2 (hcl.trans hc)
  obtain ⟨y0, g0⟩ := hg 0 _ rfl
  obtain ⟨y1, g1⟩ := hg 1 _ rfl
  simp only [List.getElem_toArray, List.getElem_cons_zero, List.getElem_cons_succ, hs, List.drop_zero, List.drop_succ_cons, List.take_succ_cons, List.take_zero] at g0 g1
  obtain ⟨l0, k0, b0⟩ := down_bytes g0
  obtain ⟨l1, k1, b1⟩ := down_bytes g1
  exact ⟨⟨l0, l1⟩, ⟨[u0], [u1], rfl, k0, k1⟩, b0, b1⟩
theorem down_Journal {fuel : Nat} {cs : List Value} {x : DataW H × List MemPlace} (h : DataW.trod enc Try.prog w base spare held fuel 27 cs = some x) : ∃ a : Journal, kJournal.K w a cs ∧ Bytes a.log.synced ∧ Bytes a.log.loose := by
  obtain ⟨hcl, n, hg⟩ := down_fields Try.underlying27 h
  have hc : Try.prog.cellsOf 27 = 4 := by kernel_rfl
  have hs : Try.prog.cellsOf 22 = 1 := by kernel_rfl
  have hl : Try.prog.cellsOf 25 = 2 := by kernel_rfl
  have hb : Try.prog.cellsOf 112 = 3 := by kernel_rfl
  obtain ⟨u0, u1, u2, u3, rfl⟩ := len4 (hcl.trans hc)
  obtain ⟨y0, g0⟩ := hg 0 _ rfl
  obtain ⟨y1, g1⟩ := hg 1 _ rfl
  obtain ⟨y2, g2⟩ := hg 2 _ rfl
  simp only [List.getElem_toArray, List.getElem_cons_zero, List.getElem_cons_succ, cells64, hs, hl, List.drop_zero, List.drop_succ_cons, List.take_succ_cons, List.take_zero] at g0 g1 g2
  obtain ⟨n0, e0, _⟩ := down_int Try.underlying2 g0
  replace e0 : [u0] = [Value.int .i64 n0] := e0
  injection e0 with e0
  subst e0
  obtain ⟨l1, k1, _⟩ := down_slice kBalance (fun _ => True) 110 Try.underlying22 (hb.trans rfl) (fun n cs x h => down_Balance h) g1
  obtain ⟨lg, k2, b2, b3⟩ := down_Log g2
  exact ⟨⟨n0, l1, lg⟩, ⟨[.int .i64 n0], [u1, u2, u3], rfl, rfl, ⟨[u1], [u2, u3], rfl, k1, k2⟩⟩, b2, b3⟩
end
theorem own : ownKnob Try.prog.godebug = none := by kernel_rfl
theorem laidOut : laidOutB Try.prog = true := by kernel_rfl
set_option maxRecDepth 100000 in
theorem lifted (os : Os) (started : os.Started) (H : Type) (enc : TypeId × Value → H) :
    ReturnsInHanded {} Try.checked os 3 .any (Rows.fnExactEventsOfSpec.pre6 enc Try.prog Try.f3 Rows.fnExactEventsOfRow.domain false) (Rows.fnExactEventsOfSpec.post enc Try.prog Try.f3 false true false false) := by
  refine returnsInHanded_of_change (C := Try.checked) own started (by kernel_rfl) Try.func3
    (ChangeSpec.witness6 (enc := enc) (C := Try.checked) false ⟨#[], #[.agg #[.int .i64 0, .slice none 0 0, .slice none 0 0, .slice none 0 0]], []⟩ 8 (by kernel_rfl) (by kernel_rfl) (by kernel_rfl) (by kernel_rfl)) ?_
  intro W base args ds gs before hval0 hW hcnd _
  have hval : ∀ (j : Nat) t v, Try.f3.params[j]? = some t → args[j]? = some v → Value.okWide Try.prog W .any base t v := hval0
  have hW' := hW
  obtain ⟨p, q, hA0, hV, rfl, hfz, hnd⟩ := hW
  have hA : DataW.TrodAll enc Try.prog W 0 (fun _ => true) true Try.f3.params.toList args.toList ds p := hA0
  rw [Try.params3] at hA hval
  obtain ⟨v0, vs0, d0, ds0, p0, q0, hargs, rfl, rfl, h0, r0⟩ := trodAll_cons hA
  obtain ⟨rfl, rfl, rfl⟩ := trodAll_nil r0
  obtain rfl : args = #[v0] := by cases args; simp_all
  obtain ⟨rfl, rfl⟩ := trodVars_none hV
  obtain ⟨cs, rfl, hsz⟩ := okWide_struct Try.underlying27 (hval 0 27 v0 rfl rfl)
  have k0 := h0
  have lt0 : ∀ x ∈ p0, x.block < W.heap.size := by obtain ⟨m, hm⟩ := k0; exact DataW.trod_lt m _ _ _ hm
  obtain ⟨fuel, hf⟩ := h0
  obtain ⟨x, hx, hy0, hy1⟩ := down_Journal hf
  clear hA0 hval0
  have hwalk : Calls Try.prog 3 #[.agg cs] W (fun e w' => e = .returned (.bool true) ∧ Below W.heap.size W w') := by
    have h := law_EventsOf x _ W hx hy0 hy1
    simpa [Value.cells] using h
  refine hwalk.mono fun e W' ⟨he, bel⟩ => ?_
  subst he
  exact ⟨_, rfl, _, _, _, [], _, [], hW', trodAll_mk1 (shut_bool Try.underlying4 _), trodAll_cons_mk (Below.trod laidOut (by kernel_rfl) (of_decide_eq_true (by kernel_rfl)) k0 bel lt0) trodAll_mk0, rfl, bel.frame _, fun h => by cases h⟩
theorem over : Rows.fnExactEventsOfRow.holds Try.pinned (OpenSpec.ofChange Rows.fnExactEventsOfSpec) :=
  OpenClaim.holds_of_wide 3 Try.f3 rfl rfl rfl rfl rfl rfl rfl ⟨rfl, rfl, rfl, rfl, rfl⟩ rfl rfl rfl rfl rfl (by kernel_rfl) Try.func3 (by kernel_rfl)
    (of_decide_eq_true (by kernel_rfl)) (by unfold Func.isWrapper; first | (rw [if_pos (by decide +kernel)]; kernel_rfl) | (rw [if_neg (by decide +kernel)]; exact ⟨rfl, rfl⟩))
    (fun os started H enc _ => lifted os started H enc)
theorem FnExactEventsOf_holds : Rows.FnExactEventsOfSaid := over
end Go.Proofs.Ytjlhdhbnaagajaa.J
namespace Go.Proofs.Ytjlhdhbnaagajaa
/-- The row, under a short name, for the claim. -/
theorem fnExactEventsOf_holds : Rows.FnExactEventsOfSaid := J.FnExactEventsOf_holds
end Go.Proofs.Ytjlhdhbnaagajaa
namespace Go.Proofs.Ytjlhdhbnaagajaa.J
#print axioms Go.Proofs.Ytjlhdhbnaagajaa.fnExactEventsOf_holds

end Go.Proofs.Ytjlhdhbnaagajaa.J
