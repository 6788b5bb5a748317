/- cordonref02.Same, in plain terms. -/
import Derived.Test.YthghflgmeepnlaaPaG4b
import Derived.Test.YthghflgmeepnlaaQe
import Derived.Test.YthghflgmeepnlaaQd
namespace Go.Proofs.Ythghflgmeepnlaa.Pure
open Go.RowKit Go.Proofs.Ythghflgmeepnlaa.Pa Go.Proofs.YthghflgmeepnlaaW.PrintWords Go.Proofs.YthghflgmeepnlaaW.PrintLast
set_option linter.unusedVariables false
set_option linter.unusedSimpArgs false

theorem wrap_next (i : Nat) (h : i ≤ 100000) : wrap64 ((i : Int) + 1) = ((i + 1 : Nat) : Int) := by unfold wrap64; omega

theorem rd_mem (l : List S33) (i : Nat) (h : i < l.length) : rd_T33 l i ∈ l := by
  have e : rd_T33 l i = l[i] := by simp [rd_T33, List.getD, h]
  rw [e]; exact List.getElem_mem h

theorem same_l0 (l0 l1 : List S33) (hl : l0.length ≤ 60) (he : l0.length = l1.length) (d : Nat) : ∀ (k i : Nat), i + d = l0.length →
    cordonref02_Same.l0 (k + d + 1) l0 l1 (i : Int) = some (decide (ordL (l0.drop i) (l1.drop i) = 0)) := by
  induction d with
  | zero =>
    intro k i hd
    rw [show k + 0 + 1 = k + 1 from rfl, cordonref02_Same.l0, if_neg (by omega), ordL_end l0 l1 i (by omega) (by omega)]
    rfl
  | succ d ih =>
    intro k i hd
    rw [show k + (d + 1) + 1 = (k + d + 1) + 1 from by omega, cordonref02_Same.l0, if_pos (by omega), if_pos (by omega), if_pos (by omega), ordL_step l0 l1 i (by omega) (by omega), wrap_next i (by omega), ih k (i + 1) (by omega)]
    have z := lin_val.zero (rd_T33 l0 i) (rd_T33 l1 i)
    unfold sameV at z
    by_cases h : ordS (rd_T33 l0 i) (rd_T33 l1 i) = 0
    · obtain ⟨h1, h2, h3⟩ := z.1 h
      rw [if_neg (by simp [h1, h2, h3]), if_pos h]
    · rw [if_pos, if_neg h]
      · simp [h]
      · have h9 : ¬ ((rd_T33 l0 i).f0 = (rd_T33 l1 i).f0 ∧ (rd_T33 l0 i).f1 = (rd_T33 l1 i).f1 ∧ (rd_T33 l0 i).f2.toList = (rd_T33 l1 i).f2.toList) := fun q => h (z.2 q)
        simp only [Bool.or_eq_true, Bool.not_eq_true', beq_eq_false_iff_ne, ne_eq]
        by_cases g1 : (rd_T33 l0 i).f0 = (rd_T33 l1 i).f0
        · by_cases g2 : (rd_T33 l0 i).f1 = (rd_T33 l1 i).f1
          · exact .inr (.inr fun g3 => h9 ⟨g1, g2, g3⟩)
          · exact .inr (.inl g2)
        · exact .inl g1

theorem ordL_len : ∀ a b : List S33, ordL a b = 0 → a.length = b.length
  | [], [], _ => rfl
  | [], _ :: _, h => by simp [ordL] at h
  | _ :: _, [], h => by simp [ordL] at h
  | x :: a, y :: b, h => by
    unfold ordL at h
    by_cases g : ordS x y = 0
    · rw [if_pos g] at h
      simp [ordL_len a b h]
    · rw [if_neg g] at h; exact absurd h g
theorem same_is (l0 l1 : List S33) (hl : l0.length ≤ 60) (k : Nat) : cordonref02_Same.f (k + 61) l0 l1 = some (decide (ordL l0 l1 = 0)) := by
  unfold cordonref02_Same.f
  by_cases h : l0.length = l1.length
  · have := same_l0 l0 l1 hl h l0.length (k + (60 - l0.length)) 0 (by omega)
    rw [show k + (60 - l0.length) + l0.length + 1 = k + 61 from by omega, Int.natCast_zero] at this
    rw [if_pos (by omega), this]; rfl
  · rw [if_neg (by omega), decide_eq_false (fun q => h (ordL_len _ _ q))]
end Go.Proofs.Ythghflgmeepnlaa.Pure
