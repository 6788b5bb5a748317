/- The pure statement of CodeEncodes: any row, any columns. -/
import Derived.Test.YthghflgmeepnlaaPax24
import Derived.Test.YthghflgmeepnlaaQc
namespace Go.Proofs.Ythghflgmeepnlaa.Pure
open Go.RowKit Go.Proofs.Ythghflgmeepnlaa.Pa Go.Proofs.YthghflgmeepnlaaW.PrintWords Go.Proofs.YthghflgmeepnlaaW.PrintLast
theorem enc_loop (l : List S33) (cs : List Int) (hc : cs.length ≤ 60) (kb : ByteArray) (ke : Int)
    (d : Nat) : ∀ (k i : Nat) (acc : List S33), i + d = cs.length → acc.length = i →
    (match pick l (cs.drop i) with | none => (kb, ke) = ((⟨#[]⟩ : ByteArray), 2) | some p => (kb, ke) = encode (acc ++ p)) →
    cordonlaw02_CodeEncodes.l0 (k + d + 1200) l kb ke acc cs (cs.length : Int) (i : Int) = some true := by
  induction d with
  | zero =>
    intro k i acc hd ha hp
    rw [show k + 0 + 1200 = (k + (179 - 2 * acc.length) + 2 * acc.length + 1020) + 1 from by omega, cordonlaw02_CodeEncodes.l0, if_neg (by omega), rencode_is _ _ (by omega)]
    rw [List.drop_eq_nil_of_le (by omega)] at hp
    simp only [pick, List.append_nil] at hp
    simp only [Option.bind_some]
    rw [← hp, if_pos rfl, if_pos rfl, show k + (179 - 2 * acc.length) + 2 * acc.length + 1020 = (k + 175) + 1024 from by omega, alive_is]
    rfl
  | succ d ih =>
    intro k i acc hd ha hp
    obtain ⟨c, hx⟩ : ∃ x, cs[i]? = some x := ⟨cs[i]'(by omega), List.getElem?_eq_getElem (by omega)⟩
    have w : wrap64 ((i : Int) + 1) = ((i + 1 : Nat) : Int) := by unfold wrap64; omega
    have hdrop : cs.drop i = c :: cs.drop (i + 1) := by
      obtain ⟨hi, rfl⟩ := List.getElem?_eq_some_iff.1 hx
      rw [List.drop_eq_getElem_cons hi]
    have hal : cordonlaw02_alive.f (k + d + 1200) = some true := by
      rw [show k + d + 1200 = (k + d + 176) + 1024 from by omega]
      exact alive_is _
    rw [hdrop] at hp
    unfold pick at hp
    rw [show k + (d + 1) + 1200 = (k + d + 1200) + 1 from by omega, cordonlaw02_CodeEncodes.l0, if_pos (by omega), if_pos (by omega), if_pos (by omega), rd_at hx]
    by_cases h1 : c < 0
    · rw [if_pos (.inl h1)] at hp
      simp only [Prod.mk.injEq] at hp
      obtain ⟨rfl, rfl⟩ := hp
      rw [if_pos h1, if_pos (by rw [toList_txt]; rfl), if_pos rfl, hal]; rfl
    · by_cases h2 : c ≥ (l.length : Int)
      · rw [if_pos (.inr h2)] at hp
        simp only [Prod.mk.injEq] at hp
        obtain ⟨rfl, rfl⟩ := hp
        rw [if_neg h1, if_pos h2, if_pos (by rw [toList_txt]; rfl), if_pos rfl, hal]; rfl
      · rw [if_neg (by omega)] at hp
        rw [if_neg h1, if_neg h2, if_pos (by omega), if_pos (by omega), if_pos (by omega), w]
        have e : (⟨(rd_T33 l c).f0, (rd_T33 l c).f1, (rd_T33 l c).f2⟩ : S33) = rd_T33 l c := rfl
        rw [e]
        refine ih k (i + 1) (acc ++ [rd_T33 l c]) (by omega) (by simp; omega) ?_
        cases hq : pick l (cs.drop (i + 1)) with
        | none => rw [hq] at hp; simpa using hp
        | some p => rw [hq] at hp; simpa using hp

theorem CodeEncodes (l0 : List S33) (hl0 : l0.length ≤ maxLen) (_h0 : ∀ x ∈ l0, okv x) (l1 : List Int) (_hl1 : l1.length ≤ maxLen) (_h1 : ∀ x ∈ l1, (Lit.int .i64 x).wf = true) : ∃ k, cordonlaw02_CodeEncodes.f k l0 l1 = some true := by
  unfold maxLen at hl0
  refine ⟨2 * l0.length + 2000, ?_⟩
  unfold cordonlaw02_CodeEncodes.f
  rw [show 2 * l0.length + 2000 = (l0.length + 1999) + l0.length + 1 from by omega, few_is _ _ hl0, Option.bind_some]
  have hal : cordonlaw02_alive.f (l0.length + 1999 + l0.length) = some true := by
    rw [show l0.length + 1999 + l0.length = (2 * l0.length + 975) + 1024 from by omega]
    exact alive_is _
  by_cases hf : few l0 = true
  · obtain ⟨_, hn⟩ := few_true hf
    rw [if_pos hf, cordonlaw02_CodeEncodes.j0]
    by_cases hc : (l1.length : Int) > 60
    · rw [decide_eq_true hc, if_pos rfl, hal]; rfl
    · rw [decide_eq_false hc, if_neg (by simp)]
      rw [show l0.length + 1999 + l0.length = 979 + 2 * l0.length + 1020 from by omega, encode_is _ _ hl0, Option.bind_some, rencode_is _ _ hl0, Option.bind_some, if_pos rfl]
      rw [show 979 + 2 * l0.length + 1020 = (2 * l0.length + 1998) + 1 from by omega, cordonlaw02_CodeEncodes.j1, if_neg (by simp)]
      rw [show 2 * l0.length + 1998 = (2 * l0.length + 977 - 3 * l1.length) + 3 * l1.length + 1021 from by omega, key_is _ _ _ (by omega)]
      rw [show (2 * l0.length + 977 - 3 * l1.length) + 3 * l1.length + 1021 = (2 * l0.length + 798 - l1.length) + l1.length + 1200 from by omega]
      obtain ⟨K, hK⟩ : ∃ K, K = (2 * l0.length + 798 - l1.length) + l1.length + 1200 := ⟨_, rfl⟩
      rw [← hK]
      cases hq : pick l0 l1 with
      | none =>
        simp only [Option.bind_some]
        have := enc_loop l0 l1 (by omega) ⟨#[]⟩ 2 l1.length (2 * l0.length + 798 - l1.length) 0 [] (by omega) rfl (by simp [hq])
        rw [Int.natCast_zero, ← hK] at this
        exact this
      | some p =>
        simp only [Option.bind_some]
        have := enc_loop l0 l1 (by omega) (encode p).1 (encode p).2 l1.length (2 * l0.length + 798 - l1.length) 0 [] (by omega) rfl (by simp [hq])
        rw [Int.natCast_zero, ← hK] at this
        exact this
  · rw [if_neg hf, cordonlaw02_CodeEncodes.j0, if_pos rfl, hal]; rfl
end Go.Proofs.Ythghflgmeepnlaa.Pure
