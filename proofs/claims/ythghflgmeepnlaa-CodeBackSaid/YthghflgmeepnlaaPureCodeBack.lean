/- The pure statement of CodeBack: any row. -/
import Derived.Test.YthghflgmeepnlaaPaL11
import Derived.Test.YthghflgmeepnlaaQl
namespace Go.Proofs.Ythghflgmeepnlaa.Pure
open Go.RowKit Go.Proofs.Ythghflgmeepnlaa.Pa Go.Proofs.YthghflgmeepnlaaW.PrintWords Go.Proofs.YthghflgmeepnlaaW.PrintLast
set_option linter.unusedVariables false
set_option linter.unusedSimpArgs false

theorem CodeBack (l0 : List S33) (hl0 : l0.length ≤ maxLen) (h0 : ∀ x ∈ l0, okv x) : ∃ k, cordonlaw02_CodeBack.f k l0 = some true := by
  unfold maxLen at hl0
  refine ⟨l0.length + 6000, ?_⟩
  unfold cordonlaw02_CodeBack.f
  rw [show l0.length + 6000 = 5999 + l0.length + 1 from by omega, few_is _ _ hl0, Option.bind_some]
  obtain ⟨K, hK, e⟩ : ∃ K, 6000 ≤ K ∧ 5999 + l0.length + 1 = K := ⟨_, by omega, rfl⟩
  rw [e, alive_at K (by omega)]
  by_cases hf : few l0 = true
  case neg => rw [if_neg hf]; rfl
  obtain ⟨_, hn⟩ := few_true hf
  rw [if_pos hf, encode_at K l0 (by omega) (by omega), Option.bind_some]
  by_cases g : (encode l0).2 = 0
  · obtain ⟨b, r, n⟩ := encode_ok l0 g
    rw [if_pos g, decode_enc l0 (good_all r h0) n _ b, Option.bind_some, if_pos rfl, same_at K l0 l0 hn (by omega), Option.bind_some, ordL_self]
    rfl
  · rw [if_neg g, encode_err l0 g, if_pos (by rw [toList_txt]; rfl)]
    rfl
end Go.Proofs.Ythghflgmeepnlaa.Pure
