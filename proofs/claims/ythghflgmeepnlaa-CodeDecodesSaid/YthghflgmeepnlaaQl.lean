/- Encoding, in plain terms, for the laws. -/
import Derived.Test.YthghflgmeepnlaaQh
import Derived.Test.YthghflgmeepnlaaQk
namespace Go.Proofs.Ythghflgmeepnlaa.Pure
open Go.RowKit Go.Proofs.Ythghflgmeepnlaa.Pa Go.Proofs.YthghflgmeepnlaaW.PrintWords Go.Proofs.YthghflgmeepnlaaW.PrintLast
set_option linter.unusedVariables false
set_option linter.unusedSimpArgs false

theorem encode_ok (l : List S33) (h : (encode l).2 = 0) : txt (encode l).1 = bytesR l ∧ errR l = 0 ∧ l.length ≤ 40 := by
  unfold encode at h ⊢
  by_cases q : errR l ≠ 0
  · rw [if_pos q] at h; exact absurd h q
  · rw [if_neg q] at h ⊢
    by_cases q2 : l.length > 40
    · rw [if_pos q2] at h; simp at h
    · rw [if_neg q2]; exact ⟨rfl, by omega, by omega⟩
theorem encode_err (l : List S33) (h : ¬ (encode l).2 = 0) : (encode l).1 = ⟨#[]⟩ := by
  unfold encode at h ⊢
  by_cases q : errR l ≠ 0
  · rw [if_pos q]
  · rw [if_neg q] at h ⊢
    by_cases q2 : l.length > 40
    · rw [if_pos q2]
    · rw [if_neg q2] at h; simp at h
theorem encode_at (K : Nat) (l : List S33) (h : 2 * l.length + 1020 ≤ K) (hl : l.length ≤ 1000000) : code_Encode.f K l = some (encode l) := by
  have := encode_is (K - 2 * l.length - 1020) l (by omega)
  rwa [show K - 2 * l.length - 1020 + 2 * l.length + 1020 = K from by omega] at this
theorem alive_at (K : Nat) (h : 1024 ≤ K) : cordonlaw02_alive.f K = some true := by
  rw [show K = (K - 1024) + 1024 from by omega]; exact alive_is _
theorem same_at (K : Nat) (l0 l1 : List S33) (hl : l0.length ≤ 60) (h : 61 ≤ K) : cordonref02_Same.f K l0 l1 = some (decide (ordL l0 l1 = 0)) := by
  have := same_is l0 l1 hl (K - 61)
  rwa [show K - 61 + 61 = K from by omega] at this
theorem good_all {l : List S33} (h : errR l = 0) (h0 : ∀ x ∈ l, okv x) : ∀ y ∈ l, goodV y := fun y hy => ⟨errR_all h y hy, inR_of_wf (h0 y hy).2.1⟩

end Go.Proofs.Ythghflgmeepnlaa.Pure
