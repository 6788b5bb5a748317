/- What decodes is right and encodes to the same bytes. -/
import Derived.Test.YthghflgmeepnlaaQh
namespace Go.Proofs.Ythghflgmeepnlaa.Pa
open Go.RowKit Go.Proofs.YthghflgmeepnlaaW.PrintWords Go.Proofs.YthghflgmeepnlaaW.PrintLast Go.Proofs.YthghflgmeepnlaaW.PrintMore
set_option linter.unusedVariables false
set_option linter.unusedSimpArgs false

theorem textOf_back : ∀ (acc t : List UInt8), (textOf acc t).2.1 = 0 → ∃ a, (textOf acc t).1 = ⟨3, 0, ⟨(acc ++ a).toArray⟩⟩ ∧ t = encT a ++ 0 :: 0 :: (textOf acc t).2.2 ∧ (acc ++ a).length ≤ 1000
  | _, [], h => by simp [textOf] at h
  | _, [c], h => by simp [textOf] at h
  | acc, c :: d :: t, h => by
    have i1 := textOf_back (acc ++ [0]) t
    have i2 := textOf_back (acc ++ [c]) (d :: t)
    simp only [textOf] at h ⊢
    by_cases a1 : c = 0
    · subst a1
      simp only [if_true] at h ⊢
      by_cases a2 : d = 255
      · subst a2
        simp only [if_true] at h ⊢
        obtain ⟨a, e1, e2, e3⟩ := i1 h
        refine ⟨0 :: a, by rw [e1]; simp, ?_, by simp at e3 ⊢; omega⟩
        show (0 : UInt8) :: 255 :: t = 0 :: 255 :: (encT a ++ 0 :: 0 :: (textOf (acc ++ [0]) t).2.2)
        rw [← e2]
      · simp only [if_neg a2] at h ⊢
        by_cases a3 : d = 0
        · subst a3
          simp only [if_true] at h ⊢
          by_cases a4 : acc.length > 1000
          · simp only [if_pos a4] at h; exact absurd h (by decide)
          · simp only [if_neg a4]
            exact ⟨[], by simp, by simp [encT], by simp; omega⟩
        · simp only [if_neg a3] at h; exact absurd h (by decide)
    · simp only [if_neg a1] at h ⊢
      obtain ⟨a, e1, e2, e3⟩ := i2 h
      refine ⟨c :: a, by rw [e1]; simp, ?_, by simp at e3 ⊢; omega⟩
      rw [show encT (c :: a) = c :: encT a from if_neg a1]
      show c :: d :: t = c :: (encT a ++ 0 :: 0 :: (textOf (acc ++ [c]) (d :: t)).2.2)
      rw [← e2]
theorem wordOf_inj : ∀ (a b : List UInt8), a.length = b.length → wordOf a = wordOf b → a = b
  | [], [], _, _ => rfl
  | [], _ :: _, h, _ => by simp at h
  | _ :: _, [], h, _ => by simp at h
  | c :: a, d :: b, h, e => by
    have hl : a.length = b.length := by simpa using h
    have e1 : wordOf (c :: a) = c.toNat * 256 ^ a.length + wordOf a := by
      have := fold_word a (0 * 256 + c.toNat)
      rw [Nat.zero_mul, Nat.zero_add] at this
      rw [← this]; unfold wordOf; simp
    have e2 : wordOf (d :: b) = d.toNat * 256 ^ b.length + wordOf b := by
      have := fold_word b (0 * 256 + d.toNat)
      rw [Nat.zero_mul, Nat.zero_add] at this
      rw [← this]; unfold wordOf; simp
    rw [e1, e2, ← hl] at e
    have h1 := wordOf_lt a.length a rfl
    have h2 := wordOf_lt a.length b hl.symm
    have hP : 0 < 256 ^ a.length := Nat.pow_pos (by decide)
    have q : c.toNat = d.toNat := by
      have : (c.toNat * 256 ^ a.length + wordOf a) / 256 ^ a.length = (d.toNat * 256 ^ a.length + wordOf b) / 256 ^ a.length := by rw [e]
      rw [Nat.mul_comm c.toNat, Nat.mul_comm d.toNat, Nat.mul_add_div hP, Nat.mul_add_div hP, Nat.div_eq_of_lt h1, Nat.div_eq_of_lt h2] at this
      omega
    rw [q] at e
    rw [UInt8.toNat_inj.1 q, wordOf_inj a b hl (by omega)]

theorem dec1_back (c : UInt8) (t : List UInt8) (h : (dec1 (c :: t)).2.1 = 0) : goodV (dec1 (c :: t)).1 ∧ c :: t = encB (dec1 (c :: t)).1 ++ (dec1 (c :: t)).2.2 := by
  by_cases h1 : c = 1
  · subst h1
    have e : dec1 (1 :: t) = (nul, 0, t) := by simp [dec1]
    rw [e]
    exact ⟨⟨rfl, by show _ ≤ (0 : Int); decide, by show (0 : Int) ≤ _; decide⟩, rfl⟩
  by_cases h2 : c = 2
  · subst h2
    have e : dec1 (2 :: t) = (⟨1, 0, ⟨#[]⟩⟩, 0, t) := by simp [dec1]
    rw [e]
    exact ⟨⟨rfl, by show _ ≤ (0 : Int); decide, by show (0 : Int) ≤ _; decide⟩, rfl⟩
  by_cases h3 : c = 3
  · subst h3
    have e : dec1 (3 :: t) = (⟨1, 1, ⟨#[]⟩⟩, 0, t) := by simp [dec1]
    rw [e]
    exact ⟨⟨rfl, by show _ ≤ (1 : Int); decide, by show (1 : Int) ≤ _; decide⟩, rfl⟩
  by_cases h4 : c = 4
  · subst h4
    have e : dec1 (4 :: t) = if t.length < 8 then (nul, 10, []) else (⟨2, (wordOf (t.take 8) : Int) - 9223372036854775808, ⟨#[]⟩⟩, 0, t.drop 8) := by simp [dec1]
    rw [e] at h ⊢
    by_cases h8 : t.length < 8
    · rw [if_pos h8] at h; exact absurd h (by decide)
    · simp only [if_neg h8]
      have hl : (t.take 8).length = 8 := by rw [List.length_take]; omega
      have hw := wordOf_lt 8 _ hl
      rw [show (256 : Nat) ^ 8 = 18446744073709551616 from rfl] at hw
      refine ⟨⟨rfl, by show _ ≤ (wordOf (t.take 8) : Int) - 9223372036854775808; omega, by show (wordOf (t.take 8) : Int) - 9223372036854775808 ≤ _; omega⟩, ?_⟩
      show 4 :: t = 4 :: (encN ((wordOf (t.take 8) : Int) - 9223372036854775808) ++ t.drop 8)
      have e5 : wordN ((wordOf (t.take 8) : Int) - 9223372036854775808) = wordOf (t.take 8) := by unfold wordN; omega
      have e6 : encN ((wordOf (t.take 8) : Int) - 9223372036854775808) = t.take 8 := by
        refine wordOf_inj _ _ (by rw [hl]; exact downN_length _ _) ?_
        unfold encN
        rw [wordOf_down, e5, Nat.mod_eq_of_lt (by exact hw)]
      rw [e6, List.take_append_drop]
  by_cases h5 : c = 5
  · subst h5
    have e : dec1 (5 :: t) = textOf [] t := by simp [dec1]
    rw [e] at h ⊢
    obtain ⟨a, e1, e2, e3⟩ := textOf_back [] t h
    rw [e1]
    rw [List.nil_append] at e3 ⊢
    have hz : (⟨a.toArray⟩ : ByteArray).size = a.length := by show a.toArray.size = _; simp
    refine ⟨⟨?_, by show _ ≤ (0 : Int); decide, by show (0 : Int) ≤ _; decide⟩, ?_⟩
    · unfold rightV
      simp only [show ¬ (3 : Int) = 0 from by decide, show ¬ (3 : Int) = 1 from by decide, show ¬ (3 : Int) = 2 from by decide, if_false, if_true]
      rw [if_neg (by omega)]
    · show 5 :: t = 5 :: ((encT (txt ⟨a.toArray⟩) ++ [0, 0]) ++ (textOf [] t).2.2)
      rw [List.append_assoc]
      show 5 :: t = 5 :: (encT a ++ 0 :: 0 :: (textOf [] t).2.2)
      rw [← e2]
  · have e : dec1 (c :: t) = (nul, 10, []) := by simp [dec1, h1, h2, h3, h4, h5]
    rw [e] at h
    exact absurd h (by decide)

theorem decL_back : ∀ (F : Nat) (s : List UInt8) (x : List S33), s.length < F → x.length ≤ 40 → (decL F s x).2 = 0 → ∃ l, (decL F s x).1 = x ++ l ∧ bytesR l = s ∧ (∀ y ∈ l, goodV y) ∧ x.length + l.length ≤ 40
  | 0, s, x, hF, _, _ => by omega
  | F + 1, [], x, hF, hx, h => ⟨[], by simp [decL], rfl, by simp, by simpa using hx⟩
  | F + 1, c :: t, x, hF, hx, h => by
    have hlen := dec1_len c t
    have hb := dec1_back c t
    simp only [decL, if_neg (show ¬ (c :: t) = [] by simp)] at h ⊢
    by_cases h1 : (dec1 (c :: t)).2.1 = 0
    · simp only [if_pos h1] at h ⊢
      by_cases h2 : 40 ≤ x.length
      · simp only [if_pos h2] at h; exact absurd h (by decide)
      · simp only [if_neg h2] at h ⊢
        obtain ⟨hg, he⟩ := hb h1
        obtain ⟨l, e1, e2, e3, e4⟩ := decL_back F (dec1 (c :: t)).2.2 (x ++ [(dec1 (c :: t)).1]) (by simp at hF; omega) (by simp; omega) h
        refine ⟨(dec1 (c :: t)).1 :: l, by rw [e1]; simp, ?_, ?_, by simp at e4 ⊢; omega⟩
        · show encB (dec1 (c :: t)).1 ++ bytesR l = c :: t
          rw [e2, ← he]
        · intro y hy
          rcases List.mem_cons.1 hy with q | q
          · rw [q]; exact hg
          · exact e3 y q
    · simp only [if_neg h1] at h; exact absurd h h1
theorem decL_err : ∀ (F : Nat) (s : List UInt8) (x : List S33), ¬ (decL F s x).2 = 0 → (decL F s x).1 = []
  | 0, s, x, h => absurd rfl h
  | F + 1, s, x, h => by
    simp only [decL] at h ⊢
    by_cases h0 : s = []
    · simp only [if_pos h0] at h; exact absurd trivial h
    · simp only [if_neg h0] at h ⊢
      by_cases h1 : (dec1 s).2.1 = 0
      · simp only [if_pos h1] at h ⊢
        by_cases h2 : 40 ≤ x.length
        · simp only [if_pos h2]
        · simp only [if_neg h2] at h ⊢
          exact decL_err F _ _ h
      · simp only [if_neg h1]
end Go.Proofs.Ythghflgmeepnlaa.Pa
