/- What bytes decode to: one value, and a row. -/
import Derived.Test.YthghflgmeepnlaaHe
import Derived.Test.YthghflgmeepnlaaQe
namespace Go.Proofs.Ythghflgmeepnlaa.Pa
open Go.RowKit Go.Proofs.YthghflgmeepnlaaW.PrintWords Go.Proofs.YthghflgmeepnlaaW.PrintLast Go.Proofs.YthghflgmeepnlaaW.PrintMore
set_option linter.unusedVariables false
set_option linter.unusedSimpArgs false

def nul : S33 := ⟨0, 0, ⟨#[]⟩⟩
def textOf : List UInt8 → List UInt8 → S33 × Int × List UInt8
  | _, [] => (nul, 10, [])
  | _, [c] => if c = 0 then (nul, 10, []) else (nul, 10, [])
  | acc, c :: d :: t => if c = 0 then (if d = 255 then textOf (acc ++ [0]) t else if d = 0 then (if acc.length > 1000 then (nul, 8, t) else (⟨3, 0, ⟨acc.toArray⟩⟩, 0, t)) else (nul, 10, [])) else textOf (acc ++ [c]) (d :: t)
def wordOf (l : List UInt8) : Nat := l.foldl (fun a b => a * 256 + b.toNat) 0
def dec1 : List UInt8 → S33 × Int × List UInt8
  | [] => (nul, 10, [])
  | c :: t =>
    if c = 1 then (nul, 0, t) else if c = 2 then (⟨1, 0, ⟨#[]⟩⟩, 0, t) else if c = 3 then (⟨1, 1, ⟨#[]⟩⟩, 0, t)
    else if c = 4 then (if t.length < 8 then (nul, 10, []) else (⟨2, (wordOf (t.take 8) : Int) - 9223372036854775808, ⟨#[]⟩⟩, 0, t.drop 8))
    else if c = 5 then textOf [] t else (nul, 10, [])

theorem txt_extract (s : ByteArray) (i : Nat) : txt (s.extract i s.size) = (txt s).drop i := by
  unfold txt
  simp [ByteArray.data_extract]
  exact List.take_of_length_le (by rw [List.length_drop]; exact Nat.sub_le_sub_right (Nat.le_of_eq (txt_length s)) i)

theorem wrap_nat (i : Nat) (h : i ≤ 9000000000000000000) : wrap64 ((i : Int) + 1) = ((i + 1 : Nat) : Int) := by unfold wrap64; omega

theorem text_is (s : ByteArray) (hs : s.size ≤ 140737488351232) : ∀ (d k i : Nat) (acc : List UInt8), i + d = s.size → acc.length + d < 140737488355328 →
    ∃ r5, code_reader_text.l0 (k + d + 1) (toI acc) (i : Int) s = some ((textOf acc ((txt s).drop i)).1.f0, (textOf acc ((txt s).drop i)).1.f1, (textOf acc ((txt s).drop i)).1.f2, (textOf acc ((txt s).drop i)).2.1, r5) ∧
      ((textOf acc ((txt s).drop i)).2.1 = 0 → txt r5 = (textOf acc ((txt s).drop i)).2.2) := by
  intro d
  induction d using Nat.strongRecOn with
  | _ d ih =>
    intro k i acc hd ha
    have hl : (txt s).length = s.size := txt_length s
    rw [code_reader_text.l0]
    cases d with
    | zero =>
      rw [if_neg (by omega), List.drop_eq_nil_of_le (by omega)]
      exact ⟨_, rfl, fun h => by simp [textOf] at h⟩
    | succ d =>
      obtain ⟨c, e1, e2⟩ := bt_cons (show i < s.size by omega)
      rw [if_pos (by omega), if_pos (by omega), e1, e2, wrap_nat i (by omega)]
      by_cases hc : c = 0
      · subst hc
        rw [if_pos (by rfl)]
        cases d with
        | zero =>
          rw [if_pos (by omega), List.drop_eq_nil_of_le (by omega)]
          exact ⟨_, rfl, fun h => by simp [textOf] at h⟩
        | succ d =>
          obtain ⟨c', e3, e4⟩ := bt_cons (show i + 1 < s.size by omega)
          rw [if_neg (by omega), if_pos (by omega), if_pos (by omega), e3, e4, wrap_nat (i + 1) (by omega)]
          by_cases h5 : c' = 255
          · subst h5
            rw [if_pos (by rfl), if_pos (by rw [toI_length]; omega)]
            have := ih d (by omega) (k + 1) (i + 1 + 1) (acc ++ [0]) (by omega) (by simp; omega)
            rw [show k + 1 + d + 1 = k + (d + 1 + 1) from by omega, toI_append] at this
            simp only [textOf, if_true]
            exact this
          · rw [if_neg (by have : ¬ c'.toNat = 255 := fun q => h5 (UInt8.toNat_inj.1 q); omega)]
            by_cases h6 : c' = 0
            · subst h6
              rw [if_pos (by rfl), if_pos (by omega), if_pos (by omega), toI_length]
              simp only [textOf, if_true, if_neg h5]
              by_cases h7 : acc.length > 1000
              · rw [if_pos (by omega)]
                simp only [if_pos h7]
                exact ⟨_, rfl, fun h => by simp at h⟩
              · rw [if_neg (by omega), str_toI]
                simp only [if_neg h7]
                refine ⟨_, rfl, fun _ => ?_⟩
                rw [show (((i + 1 + 1 : Nat) : Int)).toNat = i + 1 + 1 from by omega, txt_extract]
            · rw [if_neg (by rw [u8_zero]; exact h6)]
              simp only [textOf, if_true, if_neg h5, if_neg h6]
              exact ⟨_, rfl, fun h => by simp at h⟩
      · rw [if_neg (by rw [u8_zero]; exact hc), if_pos (by rw [toI_length]; omega)]
        have := ih d (by omega) k (i + 1) (acc ++ [c]) (by omega) (by simp; omega)
        rw [toI_append] at this
        have e9 : textOf acc (c :: (txt s).drop (i + 1)) = textOf (acc ++ [c]) ((txt s).drop (i + 1)) := by
          cases (txt s).drop (i + 1) with
          | nil => simp [textOf, hc]
          | cons d t => simp [textOf, hc]
        rw [e9, show k + (d + 1) = k + d + 1 from by omega]
        exact this

theorem wordOf_snoc (l : List UInt8) (c : UInt8) : wordOf (l ++ [c]) = wordOf l * 256 + c.toNat := by simp [wordOf, List.foldl_append]
theorem wordOf_lt : ∀ (n : Nat) (l : List UInt8), l.length = n → wordOf l < 256 ^ n
  | 0, l, h => by
    have : l = [] := List.eq_nil_of_length_eq_zero h
    subst this; simp [wordOf]
  | n + 1, l, h => by
    obtain ⟨l', c, rfl⟩ : ∃ l' c, l = l' ++ [c] := ⟨l.dropLast, l.getLast (by intro e; rw [e] at h; simp at h), (List.dropLast_concat_getLast _).symm⟩
    have ih := wordOf_lt n l' (by simp at h; omega)
    rw [wordOf_snoc, Nat.pow_succ]
    have := c.toNat_lt
    have : c.toNat < 256 := by simpa using this
    have := Nat.mul_le_mul_right 256 (show wordOf l' + 1 ≤ 256 ^ n from ih)
    omega
theorem take_next {s : ByteArray} {o i : Nat} {c : UInt8} {r : List UInt8} (h : (txt s).drop (o + i) = c :: r) : ((txt s).drop o).take (i + 1) = ((txt s).drop o).take i ++ [c] := by
  rw [List.take_add_one]
  congr 1
  rw [List.getElem?_drop]
  have : ((txt s).drop (o + i))[0]? = some c := by rw [h]; rfl
  rw [List.getElem?_drop] at this
  rw [show o + i = o + i + 0 from rfl, this]; rfl
theorem or_low (W b : Nat) (hb : b < 256) : W * 256 ||| b = W * 256 + b := by
  rw [Nat.mul_comm, show (256 : Nat) = 2 ^ 8 from rfl]
  exact (Nat.two_pow_add_eq_or_of_lt (by simpa using hb) W).symm

theorem num_loop (s : ByteArray) (h8 : 8 ≤ s.size) (d : Nat) : ∀ (k i : Nat), i + d = 8 →
    code_reader_number.l0 (k + d + 1) (wordOf ((txt s).take i) : Int) (i : Int) s = some (2, (wordOf ((txt s).take 8) : Int) - 9223372036854775808, ⟨#[]⟩, 0, s.extract 8 s.size) := by
  induction d with
  | zero =>
    intro k i hd
    obtain rfl : i = 8 := by omega
    have hl : ((txt s).take 8).length = 8 := by rw [List.length_take, txt_length]; omega
    have hw := wordOf_lt 8 _ hl
    rw [show k + 0 + 1 = k + 1 from rfl, code_reader_number.l0, if_neg (by omega), if_pos (by omega)]
    rw [show (9223372036854775808 : Int) = ((9223372036854775808 : Nat) : Int) from rfl, u64_xor_nat _ _ (by omega) (by omega), xor_top _ (by omega)]
    generalize wordOf ((txt s).take 8) = W at *
    unfold value_Int.f
    simp only [Option.bind_some]
    congr 3
    unfold wrap64
    omega
  | succ d ih =>
    intro k i hd
    obtain ⟨c, e1, e2⟩ := bt_cons (show i < s.size by omega)
    have hl : ((txt s).take i).length = i := by rw [List.length_take, txt_length]; omega
    have hw := wordOf_lt i _ hl
    have hp : 256 ^ i ≤ 256 ^ 7 := Nat.pow_le_pow_right (by decide) (by omega)
    have hc : c.toNat < 256 := by simpa using c.toNat_lt
    rw [show k + (d + 1) + 1 = (k + d + 1) + 1 from by omega, code_reader_number.l0, if_pos (by omega), if_pos (by omega), if_pos (by omega), e1, wrap_nat i (by omega)]
    have e3 : Go.bits .or .u64 (IntKind.u64.wrap ((wordOf ((txt s).take i) : Int) * 256)) (IntKind.u64.wrap (c.toNat : Int)) = ((wordOf ((txt s).take (i + 1)) : Nat) : Int) := by
      have e4 := take_next (s := s) (o := 0) (i := i) (by simpa using e2)
      rw [List.drop_zero] at e4
      rw [e4, wordOf_snoc]
      generalize wordOf ((txt s).take i) = W at *
      rw [u64_wrap, u64_wrap, show ((W : Int) * 256) % 18446744073709551616 = ((W * 256 : Nat) : Int) from by omega, show (c.toNat : Int) % 18446744073709551616 = ((c.toNat : Nat) : Int) from by omega]
      rw [u64_or_nat _ _ (by omega) (by omega), or_low _ _ hc]
    rw [e3]
    exact ih k (i + 1) (by omega)
theorem num_is (s : ByteArray) (k : Nat) : ∃ r5, code_reader_number.f (k + 9) s = some ((dec1 (4 :: txt s)).1.f0, (dec1 (4 :: txt s)).1.f1, (dec1 (4 :: txt s)).1.f2, (dec1 (4 :: txt s)).2.1, r5) ∧ ((dec1 (4 :: txt s)).2.1 = 0 → txt r5 = (dec1 (4 :: txt s)).2.2) := by
  have e : dec1 (4 :: txt s) = if (txt s).length < 8 then (nul, 10, []) else (⟨2, (wordOf ((txt s).take 8) : Int) - 9223372036854775808, ⟨#[]⟩⟩, 0, (txt s).drop 8) := by
    simp [dec1]
  rw [e]
  unfold code_reader_number.f
  by_cases h : s.size < 8
  · rw [if_pos (by omega), if_pos (by rw [txt_length]; exact h)]
    exact ⟨_, rfl, fun h => by simp at h⟩
  · rw [if_neg (by omega), if_neg (by rw [txt_length]; exact h)]
    have := num_loop s (by omega) 8 k 0 (by omega)
    have z : wordOf ((txt s).take 0) = 0 := rfl
    rw [z] at this
    exact ⟨_, this, fun _ => txt_extract s 8⟩

theorem u8_ne {c d : UInt8} (h : ¬ c = d) : ¬ ((c.toNat : Int) = (d.toNat : Int)) := fun q => h (UInt8.toNat_inj.1 (by omega))
theorem value_is (s : ByteArray) (hs : s.size ≤ 140737488351232) (h0 : 0 < s.size) (k : Nat) :
    ∃ r5, code_reader_value.f (k + s.size + 10) s = some ((dec1 (txt s)).1.f0, (dec1 (txt s)).1.f1, (dec1 (txt s)).1.f2, (dec1 (txt s)).2.1, r5) ∧ ((dec1 (txt s)).2.1 = 0 → txt r5 = (dec1 (txt s)).2.2) := by
  obtain ⟨c, e1, e2⟩ := bt_cons h0
  rw [Int.natCast_zero] at e1
  have ht : txt (s.extract 1 s.size) = (txt s).drop 1 := txt_extract s 1
  rw [Nat.zero_add, List.drop_zero] at e2
  rw [← ht] at e2
  have hz : (s.extract 1 s.size).size = s.size - 1 := by rw [← txt_length, ht, List.length_drop, txt_length]
  unfold code_reader_value.f
  generalize s.extract 1 s.size = t at *
  rw [if_pos (by omega), if_pos (by omega), e1, e2]
  by_cases h1 : c = 1
  · subst h1
    rw [if_pos (by rfl)]
    exact ⟨_, rfl, fun _ => rfl⟩
  rw [if_neg (show ¬ ((c.toNat : Int) = 1) from u8_ne h1)]
  by_cases h2 : c = 2
  · subst h2
    rw [if_pos (by rfl)]
    exact ⟨_, rfl, fun _ => rfl⟩
  rw [if_neg (show ¬ ((c.toNat : Int) = 2) from u8_ne h2)]
  by_cases h3 : c = 3
  · subst h3
    rw [if_pos (by rfl)]
    exact ⟨_, rfl, fun _ => rfl⟩
  rw [if_neg (show ¬ ((c.toNat : Int) = 3) from u8_ne h3)]
  by_cases h4 : c = 4
  · subst h4
    rw [if_pos (by rfl)]
    obtain ⟨r5, e, f⟩ := num_is t (k + s.size + 1)
    rw [show k + s.size + 10 = (k + s.size + 1) + 9 from rfl, e]
    exact ⟨r5, rfl, f⟩
  rw [if_neg (show ¬ ((c.toNat : Int) = 4) from u8_ne h4)]
  by_cases h5 : c = 5
  · subst h5
    rw [if_pos (by rfl)]
    have e9 : dec1 (5 :: txt t) = textOf [] (txt t) := by simp [dec1]
    obtain ⟨r5, e, f⟩ := text_is t (by omega) t.size (k + 10) 0 [] (by omega) (by simp; omega)
    rw [List.drop_zero] at e f
    unfold code_reader_text.f
    rw [show k + s.size + 10 = k + 10 + t.size + 1 from by omega]
    rw [show (([] : List Int)) = toI [] from rfl]
    rw [Int.natCast_zero] at e
    rw [e, e9]
    exact ⟨r5, rfl, f⟩
  rw [if_neg (show ¬ ((c.toNat : Int) = 5) from u8_ne h5)]
  have e9 : dec1 (c :: txt t) = (nul, 10, []) := by simp [dec1, h1, h2, h3, h4, h5]
  rw [e9]
  exact ⟨_, rfl, fun h => by simp at h⟩

theorem textOf_len : ∀ (acc t : List UInt8), (textOf acc t).2.2.length ≤ t.length
  | _, [] => by simp [textOf]
  | _, [c] => by simp [textOf]
  | acc, c :: d :: t => by
    have h1 := textOf_len (acc ++ [0]) t
    have h2 := textOf_len (acc ++ [c]) (d :: t)
    simp only [textOf]
    by_cases a1 : c = 0
    · by_cases a2 : d = 255
      · rw [if_pos a1, if_pos a2]; simp; omega
      · by_cases a3 : d = 0
        · rw [if_pos a1, if_neg a2, if_pos a3]
          split <;> simp <;> omega
        · rw [if_pos a1, if_neg a2, if_neg a3]; simp
    · rw [if_neg a1]; simp at h2 ⊢; omega
theorem dec1_len (c : UInt8) (t : List UInt8) : (dec1 (c :: t)).2.2.length ≤ t.length := by
  have := textOf_len [] t
  simp only [dec1]
  split
  · simp
  · split
    · simp
    · split
      · simp
      · split
        · split
          · simp
          · simp
        · split
          · exact this
          · simp

def decL : Nat → List UInt8 → List S33 → List S33 × Int
  | 0, _, x => (x, 0)
  | F + 1, s, x => if s = [] then (x, 0) else if (dec1 s).2.1 = 0 then (if 40 ≤ x.length then ([], 8) else decL F (dec1 s).2.2 (x ++ [(dec1 s).1])) else ([], (dec1 s).2.1)

theorem dec_is : ∀ (n F k : Nat) (s : ByteArray) (x : List S33), s.size ≤ n → n < F → n ≤ 140737488351232 → x.length ≤ 40 → code_Decode.l0 (k + 2 * n + 20) s x = some (decL F (txt s) x) := by
  intro n
  induction n with
  | zero =>
    intro F k s x hs hF hn hx
    obtain ⟨F, rfl⟩ : ∃ G, F = G + 1 := ⟨F - 1, by omega⟩
    have he : txt s = [] := List.eq_nil_of_length_eq_zero (by rw [txt_length]; omega)
    rw [show k + 2 * 0 + 20 = (k + 19) + 1 from rfl, code_Decode.l0, if_neg (by omega), he]
    rfl
  | succ n ih =>
    intro F k s x hs hF hn hx
    obtain ⟨F, rfl⟩ : ∃ G, F = G + 1 := ⟨F - 1, by omega⟩
    rw [show k + 2 * (n + 1) + 20 = (k + 1 + 2 * n + 20) + 1 from by omega, code_Decode.l0]
    by_cases h0 : 0 < s.size
    · obtain ⟨r5, e, f⟩ := value_is s (by omega) h0 (k + 1 + 2 * n + 10 - s.size)
      rw [show k + 1 + 2 * n + 10 - s.size + s.size + 10 = k + 1 + 2 * n + 20 from by omega] at e
      rw [if_pos (by omega), e, Option.bind_some]
      obtain ⟨c, t, hct⟩ : ∃ c t, txt s = c :: t := by
        cases h : txt s with
        | nil => have := txt_length s; rw [h] at this; simp at this; omega
        | cons c t => exact ⟨c, t, rfl⟩
      have hlen := dec1_len c t
      rw [← hct] at hlen
      have htl : t.length + 1 = s.size := by rw [← txt_length s, hct]; rfl
      simp only [decL]
      rw [if_neg (show ¬ txt s = [] by rw [hct]; simp)]
      by_cases h1 : (dec1 (txt s)).2.1 = 0
      · rw [if_pos h1, if_pos h1]
        by_cases h2 : x.length = 40
        · rw [if_pos (by omega), if_pos (by omega)]
        · rw [if_neg (by omega), if_pos (by omega), if_neg (by omega)]
          have := f h1
          rw [← this] at hlen ⊢
          rw [txt_length] at hlen
          exact ih F (k + 1) r5 _ (by omega) (by omega) (by omega) (by simp; omega)
      · rw [if_neg h1, if_neg h1]
    · have he : txt s = [] := List.eq_nil_of_length_eq_zero (by rw [txt_length]; omega)
      rw [if_neg (by omega), he]
      rfl
theorem decode_is (s : ByteArray) (hs : s.size ≤ 140737488351232) : code_Decode.f s = some (decL (s.size + 1) (txt s) []) := by
  have := dec_is s.size (s.size + 1) 2980 s [] (by omega) (by omega) hs (by simp)
  unfold code_Decode.f
  rw [show 2 * s.size + 3000 = 2980 + 2 * s.size + 20 from by omega]
  exact this
end Go.Proofs.Ythghflgmeepnlaa.Pa
