/- Plain laws of bytes: what code.Encode and the reference's Encode come to. -/
import Derived.Test.YthghflgmeepnlaaPaG5
import Derived.Test.YthghflgmeepnlaaPaG6
import Derived.Test.YthghflgmeepnlaaHo
import Derived.Laws.BitsAllLaws
namespace Go.Proofs.Ythghflgmeepnlaa.Pa
open Go.RowKit Go.Proofs.YthghflgmeepnlaaW.PrintWords Go.Proofs.YthghflgmeepnlaaW.PrintLast Go.Proofs.YthghflgmeepnlaaW.PrintMore
set_option linter.unusedVariables false
set_option linter.unusedSimpArgs false

theorem xor_low (b : Nat) (h : b < 9223372036854775808) : b ^^^ 9223372036854775808 = 9223372036854775808 + b := by
  have e : (9223372036854775808 : Nat) = 2 ^ 63 := by decide
  rw [e] at h ⊢
  apply Nat.eq_of_testBit_eq
  intro i
  rw [Nat.testBit_xor, Nat.testBit_two_pow]
  rcases Nat.lt_trichotomy i 63 with h1 | rfl | h1
  · rw [Nat.testBit_two_pow_add_gt h1, show decide (63 = i) = false from decide_eq_false (by omega)]
    simp
  · rw [Nat.testBit_two_pow_add_eq, Nat.testBit_lt_two_pow h]
    simp
  · rw [Nat.testBit_lt_two_pow (show b < 2 ^ i from Nat.lt_of_lt_of_le h (Nat.pow_le_pow_right (by decide) (by omega)))]
    rw [Nat.testBit_lt_two_pow (show 2 ^ 63 + b < 2 ^ i from Nat.lt_of_lt_of_le (by omega : 2 ^ 63 + b < 2 ^ 64) (Nat.pow_le_pow_right (by decide) (by omega)))]
    rw [show decide (63 = i) = false from decide_eq_false (by omega)]
    simp
theorem xor_top (a : Nat) (h : a < 18446744073709551616) : a ^^^ 9223372036854775808 = (a + 9223372036854775808) % 18446744073709551616 := by
  by_cases h1 : a < 9223372036854775808
  · rw [xor_low a h1]; omega
  · obtain ⟨b, rfl⟩ : ∃ b, a = 9223372036854775808 + b := ⟨a - 9223372036854775808, by omega⟩
    rw [← xor_low b (by omega), Nat.xor_assoc, Nat.xor_self, Nat.xor_zero, xor_low b (by omega)]
    omega

/-- A number's word: 2^63 more. -/
def wordN (n : Int) : Nat := ((n + 9223372036854775808) % 18446744073709551616).toNat
theorem u64_wrap (n : Int) : IntKind.u64.wrap n = n % 18446744073709551616 := by
  unfold IntKind.wrap
  simp [IntKind.bits, IntKind.signed]
theorem wordN_lt (n : Int) : wordN n < 18446744073709551616 := by unfold wordN; omega
theorem xor_word (n : Int) : Go.bits .xor .u64 (IntKind.u64.wrap n) 9223372036854775808 = (wordN n : Int) := by
  rw [u64_wrap, Go.u64_xor _ _ (by omega) (by omega) (by omega) (by omega)]
  rw [show (9223372036854775808 : Int).toNat = 9223372036854775808 from rfl, xor_top _ (by omega)]
  unfold wordN
  omega

def toI (l : List UInt8) : List Int := l.map fun b => (b.toNat : Int)
theorem toI_append (a b : List UInt8) : toI (a ++ b) = toI a ++ toI b := by simp [toI]
theorem toI_length (a : List UInt8) : (toI a).length = a.length := by simp [toI]
theorem str_toI (l : List UInt8) : strOfNums (toI l) = ⟨l.toArray⟩ := by
  unfold strOfNums toI
  congr 2
  rw [List.map_map]
  conv => rhs; rw [← List.map_id l]
  apply List.map_congr_left
  intro b _
  simp
/-- The lowest i bytes of a word, the highest first. -/
def downN (W : Nat) : Nat → List UInt8
  | 0 => []
  | i + 1 => UInt8.ofNat (W / 2 ^ (8 * i)) :: downN W i
theorem downN_length (W i : Nat) : (downN W i).length = i := by induction i <;> simp_all [downN]
def encN (n : Int) : List UInt8 := downN (wordN n) 8
def encT : List UInt8 → List UInt8
  | [] => []
  | c :: l => if c = 0 then 0 :: 255 :: encT l else c :: encT l
theorem encT_length (l : List UInt8) : (encT l).length ≤ 2 * l.length := by
  induction l with
  | nil => simp [encT]
  | cons c l ih => unfold encT; split <;> simp <;> omega
def txt (s : ByteArray) : List UInt8 := s.data.toList
/-- A right value's bytes. -/
def encB (x : S33) : List UInt8 :=
  if x.f0 = 1 then [UInt8.ofNat (2 + x.f1).toNat] else if x.f0 = 2 then 4 :: encN x.f1 else if x.f0 = 3 then 5 :: (encT (txt x.f2) ++ [0, 0]) else [1]
/-- Which value is right. -/
def rightV (x : S33) : Int :=
  if x.f0 = 0 then (if x.f1 = 0 ∧ txt x.f2 = [] then 0 else 2)
  else if x.f0 = 1 then (if (x.f1 = 0 ∨ x.f1 = 1) ∧ txt x.f2 = [] then 0 else 2)
  else if x.f0 = 2 then (if txt x.f2 = [] then 0 else 2)
  else if x.f0 = 3 then (if x.f1 = 0 then (if x.f2.size > 1000 then 8 else 0) else 2) else 2
theorem toList_txt (s : ByteArray) : s.toList = txt s := ByteArray.toList_eq s

theorem byte_of (W i : Nat) : ((W : Int) / 2 ^ (8 * i)) % 256 = ((UInt8.ofNat (W / 2 ^ (8 * i))).toNat : Int) := by
  simp
theorem put_num (n : Int) (a0 : Int) (a2 : ByteArray) (i : Nat) : ∀ (k : Nat) (l : List Int), i ≤ 8 → l.length + i < 140737488355328 → code_put.l0 (k + i + 1) l ((i : Int) - 1) a0 n a2 = some (l ++ toI (downN (wordN n) i)) := by
  induction i with
  | zero =>
    intro k l _ _
    rw [code_put.l0]
    rw [if_neg (by omega)]
    simp [downN, toI]
  | succ i ih =>
    intro k l hi hl
    have e : (((i + 1 : Nat) : Int) - 1) = (i : Int) := by omega
    rw [e, show k + (i + 1) + 1 = (k + i + 1) + 1 from by omega]
    rw [code_put.l0]
    have w1 : wrap64 (8 * (i : Int)) = 8 * (i : Int) := by unfold wrap64; omega
    have w2 : wrap64 ((i : Int) - 1) = (i : Int) - 1 := by unfold wrap64; omega
    rw [if_pos (by omega), w1, if_pos (by omega), if_pos (by omega), w2, ih k _ (by omega) (by simp; omega), xor_word]
    have w3 : shr .u64 (wordN n : Int) (8 * (i : Int)) = (wordN n : Int) / 2 ^ (8 * i) := by
      unfold shr
      rw [show (8 * (i : Int)).toNat = 8 * i from by omega, Nat.min_eq_left (by simp [IntKind.bits]; omega)]
    rw [w3, byte_of]
    simp [downN, toI]

theorem bt_cons {s : ByteArray} {i : Nat} (h : i < s.size) : ∃ c, bt s (i : Int) = ((c : UInt8).toNat : Int) ∧ (txt s).drop i = c :: (txt s).drop (i + 1) := by
  refine ⟨s[i], ?_, ?_⟩
  · show (if h : (i : Int).toNat < s.size then ((s[(i : Int).toNat]'h).toNat : Int) else 0) = _
    rw [dif_pos (show (i : Int).toNat < s.size from h)]
    rfl
  · have h' : i < (txt s).length := by simpa [txt] using h
    rw [List.drop_eq_getElem_cons h']
    rfl
theorem txt_length (s : ByteArray) : (txt s).length = s.size := by
  show s.data.toList.length = s.data.size
  simp
theorem txt_empty : txt ⟨#[]⟩ = [] := rfl
theorem u8_zero (c : UInt8) : ((c.toNat : Int) = 0) ↔ c = 0 := by
  constructor
  · intro h
    refine UInt8.toNat_inj.1 ?_
    have : (0 : UInt8).toNat = 0 := rfl
    omega
  · rintro rfl; rfl

theorem put_text (s : ByteArray) (hs : s.size ≤ 9223372036854775807) (a0 a1 : Int) (d : Nat) : ∀ (k i : Nat) (l : List Int), i + d = s.size → l.length + 2 * d + 2 < 140737488355328 →
    code_put.l1 (k + d + 1) l (s.size : Int) (i : Int) a0 a1 s = some (l ++ toI (encT ((txt s).drop i) ++ [0, 0])) := by
  induction d with
  | zero =>
    intro k i l hd hl
    rw [code_put.l1, if_neg (by omega)]
    simp only [Option.bind_some]
    rw [if_pos (by simp; omega), List.drop_eq_nil_of_le (by rw [txt_length]; omega)]
    simp [encT, toI]
  | succ d ih =>
    intro k i l hd hl
    obtain ⟨c, hc, hdrop⟩ := bt_cons (show i < s.size by omega)
    rw [show k + (d + 1) + 1 = (k + d + 1) + 1 from by omega, code_put.l1, if_pos (by omega), if_pos (by omega), if_pos (by omega), if_pos (by omega), hc]
    have w : wrap64 ((i : Int) + 1) = ((i + 1 : Nat) : Int) := by unfold wrap64; omega
    simp only [Option.bind_some, w]
    by_cases h0 : c = 0
    · rw [if_pos ((u8_zero c).2 h0), if_pos (by simp; omega), ih k (i + 1) _ (by omega) (by simp; omega), hdrop, h0]
      simp [encT, toI]
    · rw [if_neg (fun e => h0 ((u8_zero c).1 e)), ih k (i + 1) _ (by omega) (by simp; omega), hdrop]
      simp [encT, toI, h0]

theorem txt_nil (s : ByteArray) : s.toList = [] ↔ txt s = [] := by rw [toList_txt]
theorem right_is (k : Nat) (x : S33) : value_Right.f (k + 1) x.f0 x.f1 x.f2 = some (rightV x) := by
  unfold value_Right.f rightV value_Null.f
  by_cases h0 : x.f0 = 0
  · simp only [h0, Option.bind_some, if_true]
    by_cases h1 : x.f1 = 0 <;> by_cases h2 : txt x.f2 = [] <;> simp [h1, h2, toList_txt, txt_empty]
  · simp only [h0, if_false]
    by_cases h1 : x.f0 = 1
    · simp only [h1, if_true]
      rw [value_Right.j0, value_Right.j0]
      by_cases h2 : x.f1 < 0
      · rw [if_pos h2]; simp; omega
      · rw [if_neg h2]
        by_cases h3 : x.f1 > 1
        · simp [h3]; omega
        · have : x.f1 = 0 ∨ x.f1 = 1 := by omega
          by_cases h4 : txt x.f2 = [] <;> simp [h3, h4, this, toList_txt]
    · by_cases h2 : x.f0 = 2
      · by_cases h4 : txt x.f2 = [] <;> simp [h2, h4, toList_txt]
      · by_cases h3 : x.f0 = 3
        · by_cases h4 : x.f1 = 0
          · by_cases h5 : x.f2.size > 1000
            · rw [if_neg h1, if_neg h2, if_pos h3, if_pos h4, if_pos (by omega), if_neg h1, if_neg h2, if_pos h3, if_pos h4, if_pos h5]
            · rw [if_neg h1, if_neg h2, if_pos h3, if_pos h4, if_neg (by omega), if_neg h1, if_neg h2, if_pos h3, if_pos h4, if_neg h5]
          · simp [h3, h4]
        · simp [h1, h2, h3]
theorem right_ref (k : Nat) (x : S33) : cordonref01_Right.f (k + 1) x.f0 x.f1 x.f2 = some (rightV x) := by
  unfold cordonref01_Right.f rightV
  simp only [cordonref01_Right.j0, toList_txt]
  by_cases h0 : x.f0 = 0
  · by_cases h1 : x.f1 = 0 <;> by_cases h2 : txt x.f2 = [] <;> simp [h0, h1, h2]
  · by_cases h1 : x.f0 = 1
    · by_cases h2 : x.f1 = 0
      · by_cases h3 : txt x.f2 = [] <;> simp [h1, h2, h3]
      · by_cases h4 : x.f1 = 1
        · by_cases h3 : txt x.f2 = [] <;> simp [h1, h4, h3]
        · simp [h1, h2, h4]
    · by_cases h2 : x.f0 = 2
      · by_cases h4 : txt x.f2 = [] <;> simp [h2, h4]
      · by_cases h3 : x.f0 = 3
        · by_cases h4 : x.f1 = 0
          · by_cases h5 : x.f2.size > 1000
            · have : (x.f2.size : Int) > 1000 := by omega
              simp [h3, h4, h5, this]
            · have : ¬ (x.f2.size : Int) > 1000 := by omega
              simp only [h3, h4, h5, this]; simp
          · simp [h3, h4]
        · simp [h0, h1, h2, h3]

theorem right_small {x : S33} (h : rightV x = 0) (h3 : x.f0 = 3) : x.f2.size ≤ 1000 := by
  unfold rightV at h
  rw [if_neg (by omega), if_neg (by omega), if_neg (by omega), if_pos h3] at h
  by_cases h4 : x.f1 = 0
  · rw [if_pos h4] at h
    by_cases h5 : x.f2.size > 1000
    · rw [if_pos h5] at h; cases h
    · omega
  · rw [if_neg h4] at h; cases h
theorem right_bool {x : S33} (h : rightV x = 0) (h1 : x.f0 = 1) : x.f1 = 0 ∨ x.f1 = 1 := by
  unfold rightV at h
  rw [if_neg (by omega), if_pos h1] at h
  by_cases h4 : (x.f1 = 0 ∨ x.f1 = 1) ∧ txt x.f2 = []
  · exact h4.1
  · rw [if_neg h4] at h; cases h
theorem encB_length {x : S33} (h : rightV x = 0) : (encB x).length ≤ 2003 := by
  unfold encB
  split
  · simp
  · split
    · simp [encN, downN_length]
    · split
      · rename_i h3
        have := right_small h h3
        have := encT_length (txt x.f2)
        rw [txt_length] at this
        simp; omega
      · simp
theorem put_is (k : Nat) (l : List Int) (x : S33) (h : rightV x = 0) (hl : l.length + 3000 < 140737488355328) : code_put.f (k + 1010) l x.f0 x.f1 x.f2 = some (l ++ toI (encB x)) := by
  unfold code_put.f encB
  by_cases h1 : x.f0 = 1
  · rw [if_pos h1, if_pos (by omega), if_pos h1]
    rcases right_bool h h1 with h2 | h2 <;> rw [h2] <;> (simp [toI, wrap64])
  · by_cases h2 : x.f0 = 2
    · rw [if_neg h1, if_pos h2, if_pos (by omega), if_neg h1, if_pos h2]
      have := put_num x.f1 x.f0 x.f2 8 (k + 1001) (l ++ [4]) (by omega) (by simp; omega)
      rw [show k + 1010 = k + 1001 + 8 + 1 from by omega]
      rw [show ((8 : Nat) : Int) - 1 = 7 from by omega] at this
      rw [this]
      simp [encN, toI]
    · by_cases h3 : x.f0 = 3
      · have hs := right_small h h3
        rw [if_neg h1, if_neg h2, if_pos h3, if_pos (by omega), if_neg h1, if_neg h2, if_pos h3]
        have := put_text x.f2 (by omega) x.f0 x.f1 x.f2.size (k + 1009 - x.f2.size) 0 (l ++ [5]) (by omega) (by simp; omega)
        rw [show k + 1009 - x.f2.size + x.f2.size + 1 = k + 1010 from by omega] at this
        rw [show ((0 : Nat) : Int) = 0 from rfl] at this
        rw [this]
        simp [toI]
      · rw [if_neg h1, if_neg h2, if_neg h3, if_pos (by omega), if_neg h1, if_neg h2, if_neg h3]
        simp [toI]

/-! ### Encode -/
/-- The first error of a row, or 0. -/
def errR : List S33 → Int
  | [] => 0
  | x :: l => if rightV x = 0 then errR l else rightV x
def bytesR (l : List S33) : List UInt8 := l.flatMap encB
def encode (l : List S33) : ByteArray × Int := if errR l ≠ 0 then (⟨#[]⟩, errR l) else if l.length > 40 then (⟨#[]⟩, 8) else (⟨(bytesR l).toArray⟩, 0)
theorem errR_drop {l : List S33} {i : Nat} {x : S33} (h : l[i]? = some x) : errR (l.drop i) = if rightV x = 0 then errR (l.drop (i + 1)) else rightV x := by
  obtain ⟨hi, rfl⟩ := List.getElem?_eq_some_iff.1 h
  rw [List.drop_eq_getElem_cons hi]; rfl
theorem errR_all : ∀ {l : List S33}, errR l = 0 → ∀ x ∈ l, rightV x = 0
  | [], _, x, hx => by simp at hx
  | y :: l, h, x, hx => by
    unfold errR at h
    by_cases hy : rightV y = 0
    · rw [if_pos hy] at h
      rcases List.mem_cons.1 hx with rfl | hx
      · exact hy
      · exact errR_all h x hx
    · rw [if_neg hy] at h; exact absurd h hy
theorem errR_zero {l : List S33} (h : ∀ x ∈ l, rightV x = 0) : errR l = 0 := by
  induction l with
  | nil => rfl
  | cons y l ih => unfold errR; rw [if_pos (h y (by simp))]; exact ih fun x hx => h x (by simp [hx])
theorem rd_T33_at {l : List S33} {i : Nat} {x : S33} (h : l[i]? = some x) : rd_T33 l (i : Int) = x := by
  unfold rd_T33
  simp [List.getD_eq_getElem?_getD, h]
theorem bytesR_length {l : List S33} (h : ∀ x ∈ l, rightV x = 0) : (bytesR l).length ≤ 2003 * l.length := by
  induction l with
  | nil => simp [bytesR]
  | cons y l ih =>
    have h1 := encB_length (h y (by simp))
    have h2 := ih fun x hx => h x (by simp [hx])
    unfold bytesR at h2 ⊢
    rw [List.flatMap_cons, List.length_append, List.length_cons]
    omega

theorem enc_l1 (l : List S33) (hr : ∀ x ∈ l, rightV x = 0) (hn : l.length ≤ 40) (d : Nat) : ∀ (k i : Nat), i + d = l.length →
    code_Encode.l1 (k + d + 1011) (toI (bytesR (l.take i))) l (l.length : Int) (i : Int) = some (⟨(bytesR l).toArray⟩, 0) := by
  induction d with
  | zero =>
    intro k i hd
    rw [show k + 0 + 1011 = (k + 1010) + 1 from by omega, code_Encode.l1, if_neg (by omega), List.take_of_length_le (by omega), str_toI]
  | succ d ih =>
    intro k i hd
    obtain ⟨x, hx⟩ : ∃ x, l[i]? = some x := ⟨l[i]'(by omega), List.getElem?_eq_getElem (by omega)⟩
    have hm : x ∈ l := List.mem_of_getElem? hx
    have hb : (bytesR (l.take i)).length ≤ 2003 * 40 := by
      have h1 := bytesR_length (l := l.take i) (fun x hx => hr x (List.mem_of_mem_take hx))
      have h2 : (l.take i).length ≤ 40 := by simp; omega
      omega
    have w : wrap64 ((i : Int) + 1) = ((i + 1 : Nat) : Int) := by unfold wrap64; omega
    rw [show k + (d + 1) + 1011 = (k + d + 1011) + 1 from by omega, code_Encode.l1, if_pos (by omega), if_pos (by omega), if_pos (by omega), rd_T33_at hx,
      show k + d + 1011 = (k + d + 1) + 1010 from by omega, put_is _ _ _ (hr x hm) (by rw [toI_length]; omega), Option.bind_some, w]
    have e : toI (bytesR (l.take i)) ++ toI (encB x) = toI (bytesR (l.take (i + 1))) := by
      rw [List.take_add_one, hx, ← toI_append]
      simp [bytesR]
    rw [e]
    exact ih k (i + 1) (by omega)
theorem enc_l0 (l : List S33) (hl : l.length ≤ 9223372036854775807) (d : Nat) : ∀ (k i : Nat), i + d = l.length → errR (l.take i) = 0 →
    code_Encode.l0 (k + d + l.length + 1020) l l (l.length : Int) (i : Int) = some (encode l) := by
  induction d with
  | zero =>
    intro k i hd h0
    rw [List.take_of_length_le (by omega)] at h0
    rw [show k + 0 + l.length + 1020 = (k + l.length + 1019) + 1 from by omega, code_Encode.l0, if_neg (by omega)]
    have e : encode l = if l.length > 40 then (⟨#[]⟩, 8) else (⟨(bytesR l).toArray⟩, 0) := by
      unfold encode
      rw [if_neg (by rw [h0]; simp)]
    rw [e]
    by_cases h4 : l.length > 40
    · rw [if_pos (by omega), if_pos h4]
    · rw [if_neg (by omega), if_neg h4]
      have := enc_l1 l (errR_all h0) (by omega) l.length (k + 8) 0 (by omega)
      rw [show k + 8 + l.length + 1011 = k + l.length + 1019 from by omega] at this
      exact this
  | succ d ih =>
    intro k i hd h0
    obtain ⟨x, hx⟩ : ∃ x, l[i]? = some x := ⟨l[i]'(by omega), List.getElem?_eq_getElem (by omega)⟩
    have w : wrap64 ((i : Int) + 1) = ((i + 1 : Nat) : Int) := by unfold wrap64; omega
    rw [show k + (d + 1) + l.length + 1020 = (k + d + l.length + 1020) + 1 from by omega, code_Encode.l0, if_pos (by omega), if_pos (by omega), if_pos (by omega), rd_T33_at hx,
      show k + d + l.length + 1020 = (k + d + l.length + 1019) + 1 from by omega, right_is, Option.bind_some]
    by_cases h1 : rightV x = 0
    · rw [if_pos h1, w]
      refine ih k (i + 1) (by omega) ?_
      refine errR_zero fun y hy => ?_
      rw [List.take_add_one, hx] at hy
      rcases List.mem_append.1 hy with hy | hy
      · exact errR_all h0 y hy
      · simp at hy; subst hy; exact h1
    · rw [if_neg h1]
      have : errR l = rightV x := by
        have key : ∀ (a b : List S33), errR a = 0 → errR (a ++ b) = errR b := by
          intro a b h
          induction a with
          | nil => rfl
          | cons y a ih =>
            have hy := errR_all h y (by simp)
            have h' : (if rightV y = 0 then errR a else rightV y) = 0 := h
            rw [if_pos hy] at h'
            show (if rightV y = 0 then errR (a ++ b) else rightV y) = errR b
            rw [if_pos hy]
            exact ih h'
        have e : l = l.take i ++ l.drop i := (List.take_append_drop i l).symm
        rw [e, key _ _ h0, errR_drop hx, if_neg h1]
      unfold encode
      rw [if_pos (by rw [this]; exact h1), this]
theorem encode_is (k : Nat) (l : List S33) (hl : l.length ≤ 9223372036854775807) : code_Encode.f (k + 2 * l.length + 1020) l = some (encode l) := by
  unfold code_Encode.f
  have := enc_l0 l hl l.length k 0 (by omega) rfl
  rw [show k + 2 * l.length + 1020 = k + l.length + l.length + 1020 from by omega]
  exact this
end Go.Proofs.Ythghflgmeepnlaa.Pa
