/- The pure statement of CodeDecodes: any text. -/
import Derived.Test.YthghflgmeepnlaaPaL10
import Derived.Test.YthghflgmeepnlaaQi
import Derived.Test.YthghflgmeepnlaaQl
namespace Go.Proofs.Ythghflgmeepnlaa.Pure
open Go.RowKit Go.Proofs.Ythghflgmeepnlaa.Pa Go.Proofs.YthghflgmeepnlaaW.PrintWords Go.Proofs.YthghflgmeepnlaaW.PrintLast
set_option linter.unusedVariables false
set_option linter.unusedSimpArgs false

theorem rnum_loop (s : ByteArray) (h9 : 9 ≤ s.size) (d : Nat) : ∀ (k i : Nat), i + d = 8 →
    cordonref02_next.l0 (k + d + 1) s (wordOf (((txt s).drop 1).take i) : Int) (((i + 1 : Nat)) : Int) = some (2, (wordOf (((txt s).drop 1).take 8) : Int) - 9223372036854775808, ⟨#[]⟩, 9, 0) := by
  induction d with
  | zero =>
    intro k i hd
    obtain rfl : i = 8 := by omega
    have hl : (((txt s).drop 1).take 8).length = 8 := by rw [List.length_take, List.length_drop, txt_length]; omega
    have hw := wordOf_lt 8 _ hl
    rw [show (256 : Nat) ^ 8 = 18446744073709551616 from rfl] at hw
    rw [show k + 0 + 1 = k + 1 from rfl, cordonref02_next.l0, if_neg (by omega)]
    generalize wordOf (((txt s).drop 1).take 8) = W at *
    unfold cordonref01_Int.f
    simp only [Option.bind_some]
    rw [u64_wrap]
    congr 3
    unfold wrap64
    omega
  | succ d ih =>
    intro k i hd
    obtain ⟨c, e1, e2⟩ := bt_cons (show i + 1 < s.size by omega)
    have hl : (((txt s).drop 1).take i).length = i := by rw [List.length_take, List.length_drop, txt_length]; omega
    have hw := wordOf_lt i _ hl
    have hp : 256 ^ i ≤ 256 ^ 7 := Nat.pow_le_pow_right (by decide) (by omega)
    rw [show (256 : Nat) ^ 7 = 72057594037927936 from rfl] at hp
    have hc : c.toNat < 256 := by simpa using c.toNat_lt
    rw [show k + (d + 1) + 1 = (k + d + 1) + 1 from by omega, cordonref02_next.l0, if_pos (by omega), if_pos (by omega), if_pos (by omega), e1, wrap_nat (i + 1) (by omega)]
    have e3 : IntKind.u64.wrap (IntKind.u64.wrap (256 * (wordOf (((txt s).drop 1).take i) : Int)) + IntKind.u64.wrap (c.toNat : Int)) = ((wordOf (((txt s).drop 1).take (i + 1)) : Nat) : Int) := by
      rw [take_next (s := s) (o := 1) (i := i) (by rw [Nat.add_comm]; exact e2), wordOf_snoc]
      generalize wordOf (((txt s).drop 1).take i) = W at *
      rw [u64_wrap, u64_wrap, u64_wrap]
      omega
    rw [e3]
    exact ih k (i + 1) (by omega)

theorem rtext_is (s : ByteArray) (hs : s.size ≤ 3000) : ∀ (d k i : Nat) (acc : List UInt8), i + d = s.size → acc.length + d ≤ 4000 →
    ∃ n : Int, cordonref02_next.l1 (k + 2 * d + 2) s (toI acc) (i : Int) = some ((textOf acc ((txt s).drop i)).1.f0, (textOf acc ((txt s).drop i)).1.f1, (textOf acc ((txt s).drop i)).1.f2, n, (textOf acc ((txt s).drop i)).2.1) ∧
      ((textOf acc ((txt s).drop i)).2.1 = 0 → 0 ≤ n ∧ n ≤ (s.size : Int) ∧ (txt s).drop n.toNat = (textOf acc ((txt s).drop i)).2.2) := by
  intro d
  induction d using Nat.strongRecOn with
  | _ d ih =>
    intro k i acc hd ha
    have hl : (txt s).length = s.size := txt_length s
    rw [show k + 2 * d + 2 = (k + 2 * d + 1) + 1 from rfl, cordonref02_next.l1]
    cases d with
    | zero =>
      rw [if_neg (by omega), List.drop_eq_nil_of_le (by omega)]
      exact ⟨_, rfl, fun h => by simp [textOf] at h⟩
    | succ d =>
      obtain ⟨c, e1, e2⟩ := bt_cons (show i < s.size by omega)
      rw [if_pos (by omega), if_pos (by omega), e1, e2, wrap_nat i (by omega)]
      by_cases hc : c = 0
      · subst hc
        rw [if_pos (by rfl)]
        cases d with
        | zero =>
          rw [if_pos (by omega), cordonref02_next.j3, if_pos rfl, List.drop_eq_nil_of_le (by omega)]
          exact ⟨_, rfl, fun h => by simp [textOf] at h⟩
        | succ d =>
          obtain ⟨c', e3, e4⟩ := bt_cons (show i + 1 < s.size by omega)
          rw [if_neg (by omega), if_pos (by omega), if_pos (by omega), e3, e4]
          by_cases h6 : c' = 0
          · subst h6
            rw [if_pos (by rfl), cordonref02_next.j3, if_neg (by simp), wrap_nat i (by omega), if_pos (by omega), if_pos (by omega), e3, if_pos (by rfl), toI_length]
            simp only [textOf, if_true, if_neg (show ¬ (0 : UInt8) = 255 by decide)]
            by_cases h7 : acc.length > 1000
            · rw [if_pos (by omega)]
              simp only [if_pos h7]
              exact ⟨_, rfl, fun h => by simp at h⟩
            · rw [if_neg (by omega), str_toI, show wrap64 ((i : Int) + 2) = ((i + 1 + 1 : Nat) : Int) from by unfold wrap64; omega]
              simp only [if_neg h7]
              exact ⟨_, rfl, fun _ => ⟨by omega, by omega, by rw [show (((i + 1 + 1 : Nat) : Int)).toNat = i + 1 + 1 from by omega]⟩⟩
          · rw [if_neg (by rw [u8_zero]; exact h6)]
            by_cases h5 : c' = 255
            · subst h5
              rw [show ((((255 : UInt8).toNat : Int)) != 255) = false from rfl, cordonref02_next.j3, if_neg (by simp), wrap_nat i (by omega), if_pos (by omega), if_pos (by omega), e3, if_neg (by decide), if_pos (by rw [toI_length]; omega), wrap_nat (i + 1) (by omega)]
              have := ih d (by omega) (k + 2) (i + 1 + 1) (acc ++ [0]) (by omega) (by simp; omega)
              rw [show k + 2 + 2 * d + 2 = k + 2 * (d + 1 + 1) from by omega, toI_append] at this
              simp only [textOf, if_true]
              exact this
            · have h8 : ((c'.toNat : Int) != 255) = true := bne_iff_ne.2 (show ¬ ((c'.toNat : Int) = 255) from u8_ne h5)
              rw [h8, cordonref02_next.j3, if_pos rfl]
              simp only [textOf, if_true, if_neg h5, if_neg h6]
              exact ⟨_, rfl, fun h => by simp at h⟩
      · rw [if_neg (by rw [u8_zero]; exact hc), if_pos (by rw [toI_length]; omega)]
        have := ih d (by omega) (k + 1) (i + 1) (acc ++ [c]) (by omega) (by simp; omega)
        rw [toI_append] at this
        have e9 : textOf acc (c :: (txt s).drop (i + 1)) = textOf (acc ++ [c]) ((txt s).drop (i + 1)) := by
          cases (txt s).drop (i + 1) with
          | nil => simp [textOf, hc]
          | cons d t => simp [textOf, hc]
        rw [e9, show k + 2 * (d + 1) + 1 = k + 1 + 2 * d + 2 from by omega]
        exact this

theorem next_is (s : ByteArray) (hs : s.size ≤ 3000) (h0 : 0 < s.size) (k : Nat) :
    ∃ n : Int, cordonref02_next.f (k + 2 * s.size + 20) s = some ((dec1 (txt s)).1.f0, (dec1 (txt s)).1.f1, (dec1 (txt s)).1.f2, n, (dec1 (txt s)).2.1) ∧
      ((dec1 (txt s)).2.1 = 0 → 0 ≤ n ∧ n ≤ (s.size : Int) ∧ (txt s).drop n.toNat = (dec1 (txt s)).2.2) := by
  obtain ⟨c, e1, e2⟩ := bt_cons h0
  rw [Int.natCast_zero] at e1
  rw [Nat.zero_add, List.drop_zero] at e2
  unfold cordonref02_next.f
  rw [if_pos (by omega), e1]
  have hd : (txt s).drop 1 = (txt s).drop 1 := rfl
  by_cases h1 : c = 1
  · subst h1
    rw [if_pos (by rfl)]
    have e : dec1 (txt s) = (nul, 0, (txt s).drop 1) := by rw [e2]; simp [dec1]
    rw [e]
    exact ⟨_, rfl, fun _ => ⟨by omega, by omega, rfl⟩⟩
  rw [if_neg (show ¬ ((c.toNat : Int) = 1) from u8_ne h1)]
  by_cases h2 : c = 2
  · subst h2
    rw [if_pos (by rfl), cordonref02_next.j0, if_pos rfl, if_pos (by omega), e1]
    have e : dec1 (txt s) = (⟨1, 0, ⟨#[]⟩⟩, 0, (txt s).drop 1) := by rw [e2]; simp [dec1]
    rw [e]
    exact ⟨_, rfl, fun _ => ⟨by omega, by omega, rfl⟩⟩
  rw [if_neg (show ¬ ((c.toNat : Int) = 2) from u8_ne h2)]
  by_cases h3 : c = 3
  · subst h3
    rw [show ((((3 : UInt8).toNat : Int)) == 3) = true from rfl, cordonref02_next.j0, if_pos rfl, if_pos (by omega), e1]
    have e : dec1 (txt s) = (⟨1, 1, ⟨#[]⟩⟩, 0, (txt s).drop 1) := by rw [e2]; simp [dec1]
    rw [e]
    exact ⟨_, rfl, fun _ => ⟨by omega, by omega, rfl⟩⟩
  rw [show ((c.toNat : Int) == 3) = false from beq_eq_false_iff_ne.2 (show ¬ ((c.toNat : Int) = 3) from u8_ne h3), cordonref02_next.j0, if_neg (by simp), if_pos (by omega), e1]
  have hlen : ((txt s).drop 1).length = s.size - 1 := by rw [List.length_drop, txt_length]
  by_cases h4 : c = 4
  · subst h4
    rw [if_pos (by rfl)]
    have e : dec1 (txt s) = if ((txt s).drop 1).length < 8 then (nul, 10, []) else (⟨2, (wordOf (((txt s).drop 1).take 8) : Int) - 9223372036854775808, ⟨#[]⟩⟩, 0, ((txt s).drop 1).drop 8) := by
      rw [e2]; simp [dec1]
    rw [e]
    by_cases h8 : s.size < 9
    · rw [if_pos (by omega), if_pos (by omega)]
      exact ⟨_, rfl, fun h => by simp at h⟩
    · rw [if_neg (by omega), if_neg (by omega)]
      have := rnum_loop s (by omega) 8 (k + 2 * s.size + 10) 0 (by omega)
      rw [show k + 2 * s.size + 10 + 8 + 1 = k + 2 * s.size + 19 from by omega] at this
      refine ⟨9, this, fun _ => ⟨by omega, by omega, ?_⟩⟩
      rw [List.drop_drop]; rfl
  rw [if_neg (show ¬ ((c.toNat : Int) = 4) from u8_ne h4)]
  by_cases h5 : c = 5
  · subst h5
    rw [if_pos (by rfl)]
    have e : dec1 (txt s) = textOf [] ((txt s).drop 1) := by rw [e2]; simp [dec1]
    rw [e]
    have := rtext_is s hs (s.size - 1) (k + 19) 1 [] (by omega) (by simp; omega)
    rw [show k + 19 + 2 * (s.size - 1) + 2 = k + 2 * s.size + 19 from by omega] at this
    exact this
  · rw [if_neg (show ¬ ((c.toNat : Int) = 5) from u8_ne h5)]
    have e : dec1 (txt s) = (nul, 10, []) := by rw [e2]; simp [dec1, h1, h2, h3, h4, h5]
    rw [e]
    exact ⟨_, rfl, fun h => by simp at h⟩

theorem rdec_is : ∀ (n F k : Nat) (s : ByteArray) (x : List S33), s.size ≤ n → n < F → n ≤ 3000 → x.length ≤ 40 → cordonref02_Decode.l0 (k + 3 * n + 30) s x = some (decL F (txt s) x) := by
  intro n
  induction n with
  | zero =>
    intro F k s x hs hF hn hx
    obtain ⟨F, rfl⟩ : ∃ G, F = G + 1 := ⟨F - 1, by omega⟩
    have he : txt s = [] := List.eq_nil_of_length_eq_zero (by rw [txt_length]; omega)
    rw [show k + 3 * 0 + 30 = (k + 29) + 1 from rfl, cordonref02_Decode.l0, if_neg (by omega), he]
    rfl
  | succ n ih =>
    intro F k s x hs hF hn hx
    obtain ⟨F, rfl⟩ : ∃ G, F = G + 1 := ⟨F - 1, by omega⟩
    rw [show k + 3 * (n + 1) + 30 = (k + 2 + 3 * n + 30) + 1 from by omega, cordonref02_Decode.l0]
    by_cases h0 : 0 < s.size
    · obtain ⟨m, e, f⟩ := next_is s (by omega) h0 (k + 2 + 3 * n + 10 - 2 * s.size)
      by_cases hq : 2 * s.size ≤ k + 2 + 3 * n + 10
      case neg => omega
      rw [show k + 2 + 3 * n + 10 - 2 * s.size + 2 * s.size + 20 = k + 2 + 3 * n + 30 from by omega] at e
      rw [if_pos (by omega), e, Option.bind_some]
      obtain ⟨c, t, hct⟩ : ∃ c t, txt s = c :: t := by
        cases h : txt s with
        | nil => have := txt_length s; rw [h] at this; simp at this; omega
        | cons c t => exact ⟨c, t, rfl⟩
      have hlen := dec1_len c t
      rw [← hct] at hlen
      have htl : t.length + 1 = s.size := by rw [← txt_length s, hct]; rfl
      simp only [decL]
      rw [if_neg (show ¬ txt s = [] by rw [hct]; simp)]
      by_cases h1 : (dec1 (txt s)).2.1 = 0
      · rw [if_pos h1, if_pos h1]
        by_cases h2 : x.length = 40
        · rw [if_pos (by omega), if_pos (by omega)]
        · obtain ⟨g1, g2, g3⟩ := f h1
          rw [if_neg (by omega), if_pos (by omega), if_pos g1, if_pos g2, if_neg (by omega)]
          have ht : txt (s.extract m.toNat s.size) = (dec1 (txt s)).2.2 := by rw [txt_extract, g3]
          rw [← ht] at hlen ⊢
          rw [txt_length] at hlen
          exact ih F (k + 2) _ _ (by omega) (by omega) (by omega) (by simp; omega)
      · rw [if_neg h1, if_neg h1]
    · have he : txt s = [] := List.eq_nil_of_length_eq_zero (by rw [txt_length]; omega)
      rw [if_neg (by omega), he]
      rfl

theorem CodeDecodes (a0 : ByteArray) (_ : a0.size ≤ 140737488351232) : ∃ k, cordonlaw02_CodeDecodes.f k a0 = some true := by
  refine ⟨20000, ?_⟩
  unfold cordonlaw02_CodeDecodes.f
  obtain ⟨K, hK, e⟩ : ∃ K, 19999 ≤ K ∧ 20000 = K + 1 := ⟨19999, by omega, rfl⟩
  rw [e]
  by_cases h : a0.size > 3000
  · rw [if_pos (by omega), alive_at _ (by omega)]; rfl
  rw [if_neg (by omega), decode_is a0 (by omega), Option.bind_some]
  have hr := rdec_is a0.size (a0.size + 1) (K + 1 - 3 * a0.size - 30) a0 [] (by omega) (by omega) (by omega) (by simp)
  rw [show K + 1 - 3 * a0.size - 30 + 3 * a0.size + 30 = K + 1 from by omega] at hr
  unfold cordonref02_Decode.f
  rw [hr, Option.bind_some]
  have hlt : (txt a0).length < a0.size + 1 := by rw [txt_length]; omega
  have hb := decL_back (a0.size + 1) (txt a0) [] hlt (by simp)
  have he := decL_err (a0.size + 1) (txt a0) []
  generalize decL (a0.size + 1) (txt a0) [] = D at *
  have hn : D.1.length ≤ 60 := by
    by_cases g : D.2 = 0
    · obtain ⟨l, q, _, _, q4⟩ := hb g
      rw [q, List.nil_append]; simp at q4; omega
    · rw [he g]; simp
  rw [same_at _ _ _ hn (by omega), Option.bind_some, ordL_self, if_pos (by rfl), show (D.2 != D.2) = false from by simp, cordonlaw02_CodeDecodes.j0, if_neg (by simp)]
  by_cases g : D.2 = 0
  · obtain ⟨l, q, q2, q3, q4⟩ := hb g
    rw [List.nil_append] at q
    have ee : encode l = (⟨(bytesR l).toArray⟩, 0) := by
      unfold encode
      rw [if_neg (by rw [errR_zero (fun y hy => (q3 y hy).1)]; simp), if_neg (by simp at q4; omega)]
    rw [if_pos g, q, encode_at K l (by simp at q4; omega) (by simp at q4; omega), Option.bind_some, ee, if_pos rfl, if_pos (by rw [toList_txt, toList_txt, ← q2]; rfl), alive_at _ (by omega)]
    rfl
  · rw [if_neg g, he g, if_pos (by rfl), alive_at _ (by omega)]
    rfl
end Go.Proofs.Ythghflgmeepnlaa.Pure
