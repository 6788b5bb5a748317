/- What is encoded decodes to itself. -/
import Derived.Test.YthghflgmeepnlaaQg
namespace Go.Proofs.Ythghflgmeepnlaa.Pa
open Go.RowKit Go.Proofs.YthghflgmeepnlaaW.PrintWords Go.Proofs.YthghflgmeepnlaaW.PrintLast Go.Proofs.YthghflgmeepnlaaW.PrintMore
set_option linter.unusedVariables false
set_option linter.unusedSimpArgs false

theorem text_back (s : ByteArray) : (⟨(txt s).toArray⟩ : ByteArray) = s := by
  obtain ⟨d⟩ := s
  simp [txt]
theorem no_txt {s : ByteArray} (h : txt s = []) : s = ⟨#[]⟩ := by
  have := text_back s
  rw [h] at this
  exact this.symm
theorem textOf_enc (t : List UInt8) : ∀ (a acc : List UInt8), acc.length + a.length ≤ 1000 → textOf acc (encT a ++ 0 :: 0 :: t) = (⟨3, 0, ⟨(acc ++ a).toArray⟩⟩, 0, t)
  | [], acc, h => by
    show textOf acc (0 :: 0 :: t) = _
    simp only [textOf, if_true]
    rw [if_neg (by decide), if_neg (by simp at h; omega), List.append_nil]
  | c :: a, acc, h => by
    by_cases hc : c = 0
    · subst hc
      have ih := textOf_enc t a (acc ++ [0]) (by simp at h ⊢; omega)
      show textOf acc (0 :: 255 :: (encT a ++ 0 :: 0 :: t)) = _
      simp only [textOf, if_true]
      rw [ih]; simp
    · have ih := textOf_enc t a (acc ++ [c]) (by simp at h ⊢; omega)
      rw [show encT (c :: a) = c :: encT a from if_neg hc]
      show textOf acc (c :: (encT a ++ 0 :: 0 :: t)) = _
      have e : textOf acc (c :: (encT a ++ 0 :: 0 :: t)) = textOf (acc ++ [c]) (encT a ++ 0 :: 0 :: t) := by
        cases encT a ++ 0 :: 0 :: t with
        | nil => simp [textOf, hc]
        | cons d r => simp [textOf, hc]
      rw [e, ih]; simp
theorem fold_word (l : List UInt8) : ∀ a : Nat, l.foldl (fun a b => a * 256 + b.toNat) a = a * 256 ^ l.length + wordOf l := by
  induction l with
  | nil => intro a; simp [wordOf]
  | cons c l ih =>
    intro a
    have h1 := ih (a * 256 + c.toNat)
    have h2 := ih (0 * 256 + c.toNat)
    unfold wordOf
    simp only [List.foldl_cons, List.length_cons] at *
    rw [h1, h2, Nat.pow_succ, Nat.add_mul, Nat.zero_mul, Nat.zero_add, Nat.mul_assoc, Nat.mul_comm 256, Nat.add_assoc]
theorem wordOf_down (W : Nat) : ∀ i, wordOf (downN W i) = W % 256 ^ i
  | 0 => by simp [downN, wordOf, Nat.mod_one]
  | i + 1 => by
    have ih := wordOf_down W i
    have h := fold_word (downN W i) (0 * 256 + (UInt8.ofNat (W / 2 ^ (8 * i))).toNat)
    show (downN W i).foldl (fun a b => a * 256 + b.toNat) (0 * 256 + (UInt8.ofNat (W / 2 ^ (8 * i))).toNat) = _
    rw [h, ih, downN_length, Nat.zero_mul, Nat.zero_add]
    have e : (256 : Nat) ^ i = 2 ^ (8 * i) := by rw [Nat.pow_mul]
    have e2 : (UInt8.ofNat (W / 2 ^ (8 * i))).toNat = W / 2 ^ (8 * i) % 256 := by simp
    rw [e2, Nat.pow_succ, e, Nat.mod_mul, Nat.mul_comm, Nat.add_comm]

theorem dec1_enc (x : S33) (hx : rightV x = 0) (ox : -9223372036854775808 ≤ x.f1 ∧ x.f1 ≤ 9223372036854775807) (t : List UInt8) : dec1 (encB x ++ t) = (x, 0, t) := by
  unfold encB
  obtain ⟨f0, f1, f2⟩ := x
  rcases right_cases hx with ⟨a0, a1, a2⟩ | ⟨a0, a1, a2⟩ | ⟨a0, a2⟩ | ⟨a0, a1⟩
  · simp only at a0 a1 a2
    subst a0 a1
    rw [no_txt a2]
    rfl
  · simp only at a0 a1 a2
    subst a0
    rw [no_txt a2]
    rcases a1 with a1 | a1 <;> (subst a1; rfl)
  · simp only at a0 a2 ox
    subst a0
    rw [no_txt a2]
    show dec1 (4 :: (encN f1 ++ t)) = _
    have hl : (encN f1).length = 8 := downN_length _ _
    have e : dec1 (4 :: (encN f1 ++ t)) = if (encN f1 ++ t).length < 8 then (nul, 10, []) else (⟨2, (wordOf ((encN f1 ++ t).take 8) : Int) - 9223372036854775808, ⟨#[]⟩⟩, 0, (encN f1 ++ t).drop 8) := by
      simp [dec1]
    rw [e, if_neg (by rw [List.length_append, hl]; omega)]
    have e1 : (encN f1 ++ t).take 8 = encN f1 := by rw [← hl]; simp
    have e2 : (encN f1 ++ t).drop 8 = t := by rw [← hl]; simp
    rw [e1, e2]
    have e3 : wordOf (encN f1) = wordN f1 % 256 ^ 8 := wordOf_down _ _
    have e4 := wordN_lt f1
    rw [e3, Nat.mod_eq_of_lt (by exact e4)]
    have e5 : (wordN f1 : Int) = f1 + 9223372036854775808 := by unfold wordN; omega
    rw [e5]
    congr 2
    omega
  · simp only at a0 a1
    have hs := right_small hx (show (⟨f0, f1, f2⟩ : S33).f0 = 3 from a0)
    simp only at hs
    subst a0 a1
    show dec1 (5 :: ((encT (txt f2) ++ [0, 0]) ++ t)) = _
    rw [List.append_assoc]
    have e : ∀ r, dec1 (5 :: r) = textOf [] r := fun r => by simp [dec1]
    rw [e]
    show textOf [] (encT (txt f2) ++ 0 :: 0 :: t) = _
    rw [textOf_enc t (txt f2) [] (by rw [txt_length]; simp; omega), List.nil_append, text_back]

def goodV (x : S33) : Prop := rightV x = 0 ∧ -9223372036854775808 ≤ x.f1 ∧ x.f1 ≤ 9223372036854775807
theorem decL_enc : ∀ (l : List S33) (F : Nat) (x : List S33), (∀ y ∈ l, goodV y) → l.length < F → x.length + l.length ≤ 40 → decL F (bytesR l) x = (x ++ l, 0)
  | [], F, x, _, hF, _ => by
    obtain ⟨F, rfl⟩ : ∃ G, F = G + 1 := ⟨F - 1, by simp at hF; omega⟩
    simp [decL, bytesR]
  | y :: l, F, x, hg, hF, hx => by
    obtain ⟨F, rfl⟩ : ∃ G, F = G + 1 := ⟨F - 1, by simp at hF; omega⟩
    have ih := decL_enc l F (x ++ [y]) (fun z hz => hg z (by simp [hz])) (by simp at hF; omega) (by simp at hx ⊢; omega)
    obtain ⟨b, r, e⟩ := encB_cons y
    have hy := hg y (by simp)
    show decL (F + 1) (encB y ++ bytesR l) x = _
    have d := dec1_enc y hy.1 hy.2 (bytesR l)
    simp only [decL]
    rw [if_neg (by rw [e]; simp), d]
    simp only [if_true]
    rw [if_neg (by simp at hx; omega), ih]
    simp
theorem bytes_many (l : List S33) : l.length ≤ (bytesR l).length := by
  induction l with
  | nil => simp
  | cons y l ih =>
    obtain ⟨b, r, e⟩ := encB_cons y
    show l.length + 1 ≤ (encB y ++ bytesR l).length
    rw [e, List.length_append]; simp; omega
theorem decode_enc (l : List S33) (hg : ∀ y ∈ l, goodV y) (hn : l.length ≤ 40) (s : ByteArray) (hs : txt s = bytesR l) : code_Decode.f s = some (l, 0) := by
  have hz : s.size = (bytesR l).length := by rw [← hs, txt_length]
  have h1 := bytesR_length (fun y hy => (hg y hy).1)
  rw [decode_is s (by rw [hz]; omega), hs, decL_enc l _ [] hg (by have := bytes_many l; omega) (by simp; omega)]
  rfl
theorem ordL_self : ∀ l : List S33, ordL l l = 0
  | [] => rfl
  | x :: l => by unfold ordL; rw [lin_val.self, if_pos rfl]; exact ordL_self l
end Go.Proofs.Ythghflgmeepnlaa.Pa
