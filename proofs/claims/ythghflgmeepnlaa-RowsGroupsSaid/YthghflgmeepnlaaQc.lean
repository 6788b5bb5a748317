/- Plain laws of bytes, second part: the reference's Encode, Few, the example, Key. -/
import Derived.Test.YthghflgmeepnlaaQb
namespace Go.Proofs.Ythghflgmeepnlaa.Pa
open Go.RowKit Go.Proofs.YthghflgmeepnlaaW.PrintWords Go.Proofs.YthghflgmeepnlaaW.PrintLast Go.Proofs.YthghflgmeepnlaaW.PrintMore
set_option linter.unusedVariables false
set_option linter.unusedSimpArgs false

theorem pow_step (W j : Nat) : W / 2 ^ (8 * j) / 256 = W / 2 ^ (8 * (j + 1)) := by
  rw [Nat.div_div_eq_div_mul, show 8 * (j + 1) = 8 * j + 8 from by omega, Nat.pow_add]
theorem one_num (n : Int) (d : Nat) : ∀ (k j : Nat), j + d = 8 → cordonref02_one.l0 (k + d + 1) ((wordN n / 2 ^ (8 * j) : Nat) : Int) (toI (downN (wordN n) j)) (j : Int) = some (4 :: toI (downN (wordN n) 8)) := by
  induction d with
  | zero =>
    intro k j hd
    rw [cordonref02_one.l0, if_neg (by omega)]
    simp only [Option.bind_some]
    rw [if_pos (by rw [toI_length, downN_length]; simp; omega)]
    have : j = 8 := by omega
    subst this
    simp
  | succ d ih =>
    intro k j hd
    have w1 : wrap64 ((j : Int) + 1) = ((j + 1 : Nat) : Int) := by unfold wrap64; omega
    have hlt := wordN_lt n
    have hle : wordN n / 2 ^ (8 * j) ≤ wordN n := Nat.div_le_self _ _
    rw [show k + (d + 1) + 1 = (k + d + 1) + 1 from by omega, cordonref02_one.l0, if_pos (by omega)]
    simp only [Option.bind_some]
    rw [if_pos (by rw [toI_length, downN_length]; simp; omega), w1]
    have e1 : Int.tmod ((wordN n / 2 ^ (8 * j) : Nat) : Int) 256 % 256 = ((UInt8.ofNat (wordN n / 2 ^ (8 * j))).toNat : Int) := by
      rw [Int.tmod_eq_emod_of_nonneg (Int.natCast_nonneg _), Int.emod_emod_of_dvd _ (by omega)]
      simp
    have e2 : IntKind.u64.wrap (Int.tdiv ((wordN n / 2 ^ (8 * j) : Nat) : Int) 256) = ((wordN n / 2 ^ (8 * (j + 1)) : Nat) : Int) := by
      rw [Int.tdiv_eq_ediv_of_nonneg (Int.natCast_nonneg _), u64_wrap, ← pow_step]
      generalize wordN n / 2 ^ (8 * j) = V at hle ⊢
      omega
    rw [e1, e2]
    exact ih k (j + 1) (by omega)
theorem one_text (s : ByteArray) (hs : s.size ≤ 9223372036854775807) (a0 a1 : Int) (d : Nat) : ∀ (k i : Nat) (l : List Int), i + d = s.size → l.length + 2 * d + 2 < 140737488355328 →
    cordonref02_one.l1 (k + d + 1) l (i : Int) a0 a1 s = some (l ++ toI (encT ((txt s).drop i) ++ [0, 0])) := by
  induction d with
  | zero =>
    intro k i l hd hl
    rw [cordonref02_one.l1, if_neg (by omega)]
    simp only [Option.bind_some]
    rw [if_pos (by simp; omega), List.drop_eq_nil_of_le (by rw [txt_length]; omega)]
    simp [encT, toI]
  | succ d ih =>
    intro k i l hd hl
    obtain ⟨c, hc, hdrop⟩ := bt_cons (show i < s.size by omega)
    rw [show k + (d + 1) + 1 = (k + d + 1) + 1 from by omega, cordonref02_one.l1, if_pos (by omega), if_pos (by omega), if_pos (by omega), hc]
    have w : wrap64 ((i : Int) + 1) = ((i + 1 : Nat) : Int) := by unfold wrap64; omega
    simp only [Option.bind_some, w]
    by_cases h0 : c = 0
    · rw [if_pos ((u8_zero c).2 h0), if_pos (by simp; omega), ih k (i + 1) _ (by omega) (by simp; omega), hdrop, h0]
      simp [encT, toI]
    · rw [if_neg (fun e => h0 ((u8_zero c).1 e)), ih k (i + 1) _ (by omega) (by simp; omega), hdrop]
      simp [encT, toI, h0]
theorem one_is (k : Nat) (x : S33) (h : rightV x = 0) : cordonref02_one.f (k + 1010) x.f0 x.f1 x.f2 = some (toI (encB x)) := by
  unfold cordonref02_one.f encB
  by_cases h0 : x.f0 = 0
  · rw [if_pos h0, if_neg (by omega), if_neg (by omega), if_neg (by omega)]; rfl
  · rw [if_neg h0]
    by_cases h1 : x.f0 = 1
    · rw [if_pos h1, if_pos h1]
      rcases right_bool h h1 with h2 | h2 <;> rw [h2] <;> (simp [toI, wrap64])
    · by_cases h2 : x.f0 = 2
      · rw [if_neg h1, if_pos h2, if_neg h1, if_pos h2]
        have := one_num x.f1 8 (k + 1001) 0 (by omega)
        rw [show k + 1010 = k + 1001 + 8 + 1 from by omega]
        have e : IntKind.u64.wrap (IntKind.u64.wrap x.f1 + 9223372036854775808) = ((wordN x.f1 / 2 ^ (8 * 0) : Nat) : Int) := by
          rw [u64_wrap, u64_wrap]
          unfold wordN
          simp
          omega
        rw [e]
        exact this
      · by_cases h3 : x.f0 = 3
        · have hs := right_small h h3
          rw [if_neg h1, if_neg h2, if_neg h1, if_neg h2, if_pos h3]
          have := one_text x.f2 (by omega) x.f0 x.f1 x.f2.size (k + 1009 - x.f2.size) 0 [5] (by omega) (by simp; omega)
          rw [show k + 1009 - x.f2.size + x.f2.size + 1 = k + 1010 from by omega] at this
          rw [show ((0 : Nat) : Int) = 0 from rfl] at this
          rw [this]
          simp [toI]
        · exfalso
          unfold rightV at h
          rw [if_neg h0, if_neg h1, if_neg h2, if_neg h3] at h
          cases h

theorem renc_l1 (l : List S33) (hr : ∀ x ∈ l, rightV x = 0) (hn : l.length ≤ 40) (d : Nat) : ∀ (k i : Nat), i + d = l.length →
    cordonref02_Encode.l1 (k + d + 1011) l (toI (bytesR (l.take i))) (i : Int) = some (⟨(bytesR l).toArray⟩, 0) := by
  induction d with
  | zero =>
    intro k i hd
    rw [show k + 0 + 1011 = (k + 1010) + 1 from by omega, cordonref02_Encode.l1, if_neg (by omega), List.take_of_length_le (by omega), str_toI]
  | succ d ih =>
    intro k i hd
    obtain ⟨x, hx⟩ : ∃ x, l[i]? = some x := ⟨l[i]'(by omega), List.getElem?_eq_getElem (by omega)⟩
    have hm : x ∈ l := List.mem_of_getElem? hx
    have hb : (bytesR (l.take i)).length ≤ 2003 * 40 := by
      have h1 := bytesR_length (l := l.take i) (fun x hx => hr x (List.mem_of_mem_take hx))
      have h2 : (l.take i).length ≤ 40 := by simp; omega
      omega
    have hb2 := encB_length (hr x hm)
    have w : wrap64 ((i : Int) + 1) = ((i + 1 : Nat) : Int) := by unfold wrap64; omega
    rw [show k + (d + 1) + 1011 = (k + d + 1011) + 1 from by omega, cordonref02_Encode.l1, if_pos (by omega), if_pos (by omega), rd_T33_at hx,
      show k + d + 1011 = (k + d + 1) + 1010 from by omega, one_is _ _ (hr x hm), Option.bind_some, if_pos (by rw [toI_length, toI_length]; omega), w]
    have e : toI (bytesR (l.take i)) ++ toI (encB x) = toI (bytesR (l.take (i + 1))) := by
      rw [List.take_add_one, hx, ← toI_append]
      simp [bytesR]
    rw [e]
    exact ih k (i + 1) (by omega)
theorem errR_app : ∀ (a b : List S33), errR a = 0 → errR (a ++ b) = errR b := by
  intro a b h
  induction a with
  | nil => rfl
  | cons y a ih =>
    have hy := errR_all h y (by simp)
    have h' : (if rightV y = 0 then errR a else rightV y) = 0 := h
    rw [if_pos hy] at h'
    show (if rightV y = 0 then errR (a ++ b) else rightV y) = errR b
    rw [if_pos hy]
    exact ih h'
theorem renc_l0 (l : List S33) (hl : l.length ≤ 9223372036854775807) (d : Nat) : ∀ (k i : Nat), i + d = l.length → errR (l.take i) = 0 →
    cordonref02_Encode.l0 (k + d + l.length + 1020) l (i : Int) = some (encode l) := by
  induction d with
  | zero =>
    intro k i hd h0
    rw [List.take_of_length_le (by omega)] at h0
    rw [show k + 0 + l.length + 1020 = (k + l.length + 1019) + 1 from by omega, cordonref02_Encode.l0, if_neg (by omega)]
    have e : encode l = if l.length > 40 then (⟨#[]⟩, 8) else (⟨(bytesR l).toArray⟩, 0) := by
      unfold encode
      rw [if_neg (by rw [h0]; simp)]
    rw [e]
    by_cases h4 : l.length > 40
    · rw [if_pos (by omega), if_pos h4]
    · rw [if_neg (by omega), if_neg h4]
      have := renc_l1 l (errR_all h0) (by omega) l.length (k + 8) 0 (by omega)
      rw [show k + 8 + l.length + 1011 = k + l.length + 1019 from by omega] at this
      exact this
  | succ d ih =>
    intro k i hd h0
    obtain ⟨x, hx⟩ : ∃ x, l[i]? = some x := ⟨l[i]'(by omega), List.getElem?_eq_getElem (by omega)⟩
    have w : wrap64 ((i : Int) + 1) = ((i + 1 : Nat) : Int) := by unfold wrap64; omega
    rw [show k + (d + 1) + l.length + 1020 = (k + d + l.length + 1020) + 1 from by omega, cordonref02_Encode.l0, if_pos (by omega), if_pos (by omega), rd_T33_at hx,
      show k + d + l.length + 1020 = (k + d + l.length + 1019) + 1 from by omega, right_ref, Option.bind_some]
    by_cases h1 : rightV x = 0
    · rw [if_pos h1, w]
      refine ih k (i + 1) (by omega) ?_
      refine errR_zero fun y hy => ?_
      rw [List.take_add_one, hx] at hy
      rcases List.mem_append.1 hy with hy | hy
      · exact errR_all h0 y hy
      · simp at hy; subst hy; exact h1
    · rw [if_neg h1]
      have : errR l = rightV x := by
        have e : l = l.take i ++ l.drop i := (List.take_append_drop i l).symm
        rw [e, errR_app _ _ h0, errR_drop hx, if_neg h1]
      unfold encode
      rw [if_pos (by rw [this]; exact h1), this]
theorem rencode_is (k : Nat) (l : List S33) (hl : l.length ≤ 9223372036854775807) : cordonref02_Encode.f (k + 2 * l.length + 1020) l = some (encode l) := by
  unfold cordonref02_Encode.f
  have := renc_l0 l hl l.length k 0 (by omega) rfl
  rw [show k + 2 * l.length + 1020 = k + l.length + l.length + 1020 from by omega]
  exact this

/-! ### Few, the example -/
def few (l : List S33) : Bool := decide ((∀ x ∈ l, x.f2.size ≤ 1100) ∧ l.length ≤ 60)
theorem few_l0 (l : List S33) (hl : l.length ≤ 9223372036854775807) (d : Nat) : ∀ (k i : Nat), i + d = l.length → (∀ x ∈ l.take i, x.f2.size ≤ 1100) →
    cordonlaw02_Few.l0 (k + d + 1) l (l.length : Int) (i : Int) = some (few l) := by
  induction d with
  | zero =>
    intro k i hd h0
    rw [List.take_of_length_le (by omega)] at h0
    rw [cordonlaw02_Few.l0, if_neg (by omega)]
    unfold few
    by_cases h : l.length ≤ 60
    · rw [decide_eq_true (by omega), decide_eq_true ⟨h0, h⟩]
    · rw [decide_eq_false (by omega), decide_eq_false (fun e => h e.2)]
  | succ d ih =>
    intro k i hd h0
    obtain ⟨x, hx⟩ : ∃ x, l[i]? = some x := ⟨l[i]'(by omega), List.getElem?_eq_getElem (by omega)⟩
    have w : wrap64 ((i : Int) + 1) = ((i + 1 : Nat) : Int) := by unfold wrap64; omega
    rw [show k + (d + 1) + 1 = (k + d + 1) + 1 from by omega, cordonlaw02_Few.l0, if_pos (by omega), if_pos (by omega), if_pos (by omega), rd_T33_at hx]
    by_cases h : x.f2.size > 1100
    · rw [if_pos (by omega)]
      unfold few
      rw [decide_eq_false]
      intro e
      have := e.1 x (List.mem_of_getElem? hx)
      omega
    · rw [if_neg (by omega), w]
      refine ih k (i + 1) (by omega) fun y hy => ?_
      rw [List.take_add_one, hx] at hy
      rcases List.mem_append.1 hy with hy | hy
      · exact h0 y hy
      · simp at hy; subst hy; omega
theorem few_is (k : Nat) (l : List S33) (hl : l.length ≤ 9223372036854775807) : cordonlaw02_Few.f (k + l.length + 1) l = some (few l) := few_l0 l hl l.length k 0 (by omega) (by simp)
theorem few_true {l : List S33} (h : few l = true) : (∀ x ∈ l, x.f2.size ≤ 1100) ∧ l.length ≤ 60 := of_decide_eq_true h

theorem alive_is (k : Nat) : cordonlaw02_alive.f (k + 1024) = some true := by
  unfold cordonlaw02_alive.f cordonref01_Int.f cordonref01_Text.f
  simp only [Option.bind_some]
  rw [show k + 1024 = k + 2 * ([(⟨2, 1, ⟨#[]⟩⟩ : S33), ⟨3, 0, ⟨#[97]⟩⟩]).length + 1020 from rfl, encode_is _ _ (by simp)]
  simp only [Option.bind_some]
  have e : encode [(⟨2, 1, ⟨#[]⟩⟩ : S33), ⟨3, 0, ⟨#[97]⟩⟩] = (⟨#[4, 128, 0, 0, 0, 0, 0, 0, 1, 5, 97, 0, 0]⟩, 0) := by decide +kernel
  rw [e, if_pos rfl, toList_txt]
  rfl

/-! ### Key -/
end Go.Proofs.Ythghflgmeepnlaa.Pa
