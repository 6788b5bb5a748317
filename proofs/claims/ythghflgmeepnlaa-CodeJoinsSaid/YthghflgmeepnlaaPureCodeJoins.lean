/- The pure statement of CodeJoins: any two rows. -/
import Derived.Test.YthghflgmeepnlaaPaL12
import Derived.Test.YthghflgmeepnlaaQl
namespace Go.Proofs.Ythghflgmeepnlaa.Pure
open Go.RowKit Go.Proofs.Ythghflgmeepnlaa.Pa Go.Proofs.YthghflgmeepnlaaW.PrintWords Go.Proofs.YthghflgmeepnlaaW.PrintLast
set_option linter.unusedVariables false
set_option linter.unusedSimpArgs false

theorem txt_append (a b : ByteArray) : txt (a ++ b) = txt a ++ txt b := by
  unfold txt
  simp [ByteArray.data_append]
theorem bytesR_append (a b : List S33) : bytesR (a ++ b) = bytesR a ++ bytesR b := by simp [bytesR]
theorem encode_good (l : List S33) (h : errR l = 0) (hn : l.length ≤ 40) : encode l = (⟨(bytesR l).toArray⟩, 0) := by
  unfold encode
  rw [if_neg (by omega), if_neg (by omega)]

theorem CodeJoins (l0 : List S33) (hl0 : l0.length ≤ maxLen) (h0 : ∀ x ∈ l0, okv x) (l1 : List S33) (hl1 : l1.length ≤ maxLen) (h1 : ∀ x ∈ l1, okv x) : ∃ k, cordonlaw02_CodeJoins.f k l0 l1 = some true := by
  unfold maxLen at hl0 hl1
  refine ⟨l0.length + l1.length + 6000, ?_⟩
  unfold cordonlaw02_CodeJoins.f
  rw [show l0.length + l1.length + 6000 = (l1.length + 5999) + l0.length + 1 from by omega, few_is _ _ hl0, Option.bind_some]
  rw [show (l1.length + 5999) + l0.length + 1 = (l0.length + 5999) + l1.length + 1 from by omega, few_is _ _ hl1, Option.bind_some]
  obtain ⟨K, hK, e⟩ : ∃ K, 5990 ≤ K ∧ l0.length + 5999 + l1.length + 1 = K + 1 + 1 := ⟨l0.length + 5998 + l1.length, by omega, by omega⟩
  rw [e]
  have hno : cordonlaw02_CodeJoins.j0 (K + 1 + 1) l0 l1 true = some true := by
    rw [cordonlaw02_CodeJoins.j0, if_pos rfl, alive_at _ (by omega)]; rfl
  by_cases hf0 : few l0 = true
  case neg => rw [if_neg hf0]; exact hno
  rw [if_pos hf0]
  by_cases hf1 : few l1 = true
  case neg => rw [show (!few l1) = true by simpa using hf1]; exact hno
  rw [hf1]
  obtain ⟨_, hn0⟩ := few_true hf0
  obtain ⟨_, hn1⟩ := few_true hf1
  clear hno
  rw [cordonlaw02_CodeJoins.j0, if_neg (by simp), encode_at _ l0 (by omega) (by omega), encode_at _ l1 (by omega) (by omega)]
  simp only [Option.bind_some]
  have hj : ∀ s t, cordonlaw02_CodeJoins.j1 (K + 1) l0 l1 s t true = some true := fun s t => by
    rw [cordonlaw02_CodeJoins.j1, if_pos rfl, alive_at _ (by omega)]; rfl
  by_cases g0 : (encode l0).2 = 0
  case neg => rw [if_neg g0]; exact hj _ _
  rw [if_pos g0]
  by_cases g1 : (encode l1).2 = 0
  case neg => rw [if_neg g1]; exact hj _ _
  rw [if_pos g1]
  obtain ⟨b0, r0, n0⟩ := encode_ok l0 g0
  obtain ⟨b1, r1, n1⟩ := encode_ok l1 g1
  have hw : wrap64 ((l0.length : Int) + (l1.length : Int)) = ((l0.length + l1.length : Nat) : Int) := by unfold wrap64; omega
  rw [hw]
  by_cases hm : l0.length + l1.length > 40
  · rw [decide_eq_true (by omega)]; exact hj _ _
  rw [decide_eq_false (by omega), cordonlaw02_CodeJoins.j1, if_neg (by simp)]
  simp only [Option.bind_some, List.nil_append]
  have hga : ∀ y ∈ l0 ++ l1, goodV y := fun y hy => by
    rcases List.mem_append.1 hy with q | q
    · exact good_all r0 h0 y q
    · exact good_all r1 h1 y q
  have hea : encode (l0 ++ l1) = (⟨(bytesR (l0 ++ l1)).toArray⟩, 0) := encode_good _ (errR_zero fun y hy => (hga y hy).1) (by rw [List.length_append]; omega)
  have hta : txt ((encode l0).1 ++ (encode l1).1) = bytesR (l0 ++ l1) := by rw [txt_append, b0, b1, bytesR_append]
  have hda := decode_enc (l0 ++ l1) hga (by rw [List.length_append]; omega) _ hta
  have z0 : (encode l0).1.size ≤ 100000 := by rw [← txt_length, b0]; have := bytesR_length (l := l0) (fun y hy => (hga y (by simp [hy])).1); omega
  have z1 : (encode l1).1.size ≤ 100000 := by rw [← txt_length, b1]; have := bytesR_length (l := l1) (fun y hy => (hga y (by simp [hy])).1); omega
  rw [if_pos (by simp; omega), if_pos (by omega), encode_at _ (l0 ++ l1) (by rw [List.length_append]; omega) (by rw [List.length_append]; omega), Option.bind_some, if_pos (by omega), hda, Option.bind_some, hea]
  rw [if_pos rfl, if_pos (by rw [toList_txt, toList_txt, hta]; rfl), if_pos rfl, same_at _ _ _ (by rw [List.length_append]; omega) (by omega), Option.bind_some, ordL_self, alive_at _ (by omega)]
  rfl
end Go.Proofs.Ythghflgmeepnlaa.Pure
