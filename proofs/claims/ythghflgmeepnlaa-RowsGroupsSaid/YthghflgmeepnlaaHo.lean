/- What came in, read as lists: rows of values, lists of rows, lists of bools and of numbers, to any depth. -/
import Derived.Test.YthghflgmeepnlaaPax0
import Derived.Deep.Slices
import Derived.Deep.Strs
namespace Go.Proofs.Ythghflgmeepnlaa.Pa
open Go.RowKit Go.Proofs.YthghflgmeepnlaaW.PrintWords Go.Proofs.YthghflgmeepnlaaW.PrintLast Go.Proofs.YthghflgmeepnlaaW.PrintMore
set_option linter.unusedVariables false
set_option linter.unusedSimpArgs false

/-- What can be read of type t is of kind d, and good. -/
def Opens {H : Type} (enc : TypeId × Value → H) (w : World) (t : TypeId) {α : Type} (d : Kd α) (good : α → Prop) : Prop :=
  ∀ (fuel : Nat) (cs : List Value) (x : DataW H × List MemPlace), DataW.trod enc Try.prog w 0 (fun _ => true) true fuel t cs = some x → ∃ v, d.K w v cs ∧ good v

section
variable {H : Type} {enc : TypeId × Value → H} {w : World}
theorem opens_int {t : TypeId} (k : IntKind) (ht : Try.prog.underlying t = some (.int k)) : Opens enc w t (Kd.int k) (fun n => (Lit.int k n).wf = true) := by
  intro fuel cs x h
  obtain ⟨n, rfl, _, hw⟩ := DataW.trod_int ht h
  exact ⟨n, rfl, hw⟩
theorem opens_bool {t : TypeId} (ht : Try.prog.underlying t = some .bool) : Opens enc w t Kd.bool (fun _ => True) := by
  intro fuel cs x h
  obtain ⟨n, rfl, _⟩ := DataW.trod_bool ht h
  exact ⟨n, rfl, trivial⟩

/-- A value as it may come in. -/
def okv (x : S33) : Prop := (Lit.int .i64 x.f0).wf = true ∧ (Lit.int .i64 x.f1).wf = true ∧ x.f2.size ≤ maxLen
set_option maxRecDepth 10000 in
theorem opens_33 : Opens enc w 33 k33 okv := by
  intro fuel cs x h
  obtain ⟨y0, y1, y2, n, _, hl, h0, h1, h2⟩ := Go.Deep.trod_struct3 Try.underlying33 h
  have hc : Try.prog.cellsOf 33 = 3 := by kernel_rfl
  have hc3 : Try.prog.cellsOf 3 = 1 := by kernel_rfl
  have hc9 : Try.prog.cellsOf 9 = 1 := by kernel_rfl
  rw [hc] at hl
  match cs, hl with
  | [c0, c1, c2], _ =>
    simp only [hc3, hc9, List.drop_zero, List.drop_succ_cons, List.take_succ_cons, List.take_zero] at h0 h1 h2
    obtain ⟨n0, e0, _, w0⟩ := DataW.trod_int Try.underlying3 h0
    obtain ⟨n1, e1, _, w1⟩ := DataW.trod_int Try.underlying3 h1
    obtain ⟨s2, e2, _, w2⟩ := DataW.trod_string Try.underlying9 h2
    simp only [List.cons.injEq, and_true] at e0 e1 e2
    subst e0 e1 e2
    exact ⟨⟨n0, n1, s2⟩, k33_mk w ⟨n0, n1, s2⟩, w0, w1, w2⟩

theorem opens_slice {t e : TypeId} {α : Type} {d : Kd α} {good : α → Prop} (ht : Try.prog.underlying t = some (.slice e)) (hs : Try.prog.cellsOf e = d.sz) (hz : 0 < d.sz) (he : Opens enc w e d good) :
    Opens enc w t (Kd.slice e d) (fun xs => xs.length ≤ maxLen ∧ ∀ x ∈ xs, good x) := by
  intro fuel cs x h
  rcases Go.Deep.open_slice ht h with ⟨rfl, _⟩ | ⟨a, len, cap, m, n, D, Pl, rfl, _, hl, hm, hmm, _, hi⟩
  · exact ⟨[], ⟨none, 0, rfl, Nat.le_refl _, rfl, by simp, fun h => absurd h (by simp)⟩, by simp, by simp⟩
  · have hlm : len ≤ m := by simp at hmm; omega
    have key : ∀ i : Nat, ∃ v : Option α, i < len → ∃ y cs', v = some y ∧ w.cells? 0 (a.add (i * d.sz)) d.sz = some cs' ∧ d.K w y cs' ∧ good y := by
      intro i
      by_cases hil : i < len
      · obtain ⟨cs', h1, h2⟩ := hi i (by omega)
        obtain ⟨y, hk, hg⟩ := he n cs' _ h2
        rw [hs] at h1
        exact ⟨some y, fun _ => ⟨y, cs', rfl, h1, hk, hg⟩⟩
      · exact ⟨none, fun h => absurd h hil⟩
    have key2 : ∃ xs : List α, xs.length = len ∧ ∀ i y, xs[i]? = some y → ∃ cs', w.cells? 0 (a.add (i * d.sz)) d.sz = some cs' ∧ d.K w y cs' ∧ good y := by
      have : ∀ k, k ≤ len → ∃ xs : List α, xs.length = k ∧ ∀ i y, xs[i]? = some y → ∃ cs', w.cells? 0 (a.add (i * d.sz)) d.sz = some cs' ∧ d.K w y cs' ∧ good y := by
        intro k
        induction k with
        | zero => exact fun _ => ⟨[], rfl, by simp⟩
        | succ k ih =>
          intro hk
          obtain ⟨xs, hx, hp⟩ := ih (by omega)
          obtain ⟨v, hv⟩ := key k
          obtain ⟨y, cs', _, h1, h2, h3⟩ := hv (by omega)
          refine ⟨xs ++ [y], by simp [hx], fun i z hz => ?_⟩
          by_cases hik : i < k
          · rw [List.getElem?_append_left (by omega)] at hz
            exact hp i z hz
          · rw [List.getElem?_append_right (by omega)] at hz
            have : i = k := by
              rcases Nat.eq_zero_or_pos (i - xs.length) with h0 | h0
              · omega
              · rw [List.getElem?_eq_none (by simp; omega)] at hz
                cases hz
            subst this
            rw [hx] at hz
            simp at hz
            subst hz
            exact ⟨cs', h1, h2, h3⟩
      exact this len (Nat.le_refl _)
    obtain ⟨xs, hx, hp⟩ := key2
    refine ⟨xs, ⟨some a, cap, by rw [hx], by omega, rfl, by rw [hx]; unfold maxLen at hm; omega, fun _ => ⟨a, rfl, fun j p hj => ?_⟩⟩, by rw [hx]; exact Nat.le_trans hl hm, fun y hy => ?_⟩
    · obtain ⟨cs', h1, h2, _⟩ := hp j p hj
      refine ⟨cs', d.K_len h2, h2, fun i u hu => ?_⟩
      obtain ⟨_, h4, h5⟩ := World.cells?_some h1
      have hlt : i < d.sz := by
        rcases Nat.lt_or_ge i d.sz with h | h
        · exact h
        · rw [List.getElem?_eq_none (by omega)] at hu
          cases hu
      rw [← hu, ← h5 i hlt, Go.Deep.add_add]
    · obtain ⟨i, hi⟩ := List.getElem?_of_mem hy
      obtain ⟨_, _, _, hg⟩ := hp i y hi
      exact hg
end
end Go.Proofs.Ythghflgmeepnlaa.Pa
