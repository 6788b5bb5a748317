/- The bytes of rows stand as the rows do. -/
import Derived.Test.YthghflgmeepnlaaHd
import Derived.Test.YthghflgmeepnlaaQc
namespace Go.Proofs.Ythghflgmeepnlaa.Pa
open Go.RowKit Go.Proofs.YthghflgmeepnlaaW.PrintWords Go.Proofs.YthghflgmeepnlaaW.PrintLast Go.Proofs.YthghflgmeepnlaaW.PrintMore
set_option linter.unusedVariables false
set_option linter.unusedSimpArgs false

theorem cmpB_cons (a b : UInt8) (x y : List UInt8) : cmpB (a :: x) (b :: y) = if a = b then cmpB x y else if a.toNat < b.toNat then -1 else 1 := by
  have h := bl_cons a b x y
  unfold cmpB
  by_cases e : a = b
  · subst e
    rw [if_pos rfl]
    by_cases h1 : Op.bytesLess x y = true
    · rw [if_pos (h.2 (.inr ⟨rfl, h1⟩)), if_pos h1]
    · rw [if_neg (fun q => by rcases h.1 q with q | q; omega; exact h1 q.2), if_neg h1]
      by_cases h2 : x = y <;> simp [h2]
  · rw [if_neg e]
    by_cases h1 : a.toNat < b.toNat
    · rw [if_pos (h.2 (.inl h1)), if_pos h1]
    · rw [if_neg (fun q => by rcases h.1 q with q | q; omega; exact e q.1), if_neg (by simp [e]), if_neg h1]
theorem cmpB_self (x : List UInt8) : cmpB x x = 0 := by unfold cmpB; rw [less_irrefl]; simp
theorem cmpB_nil_cons (b : UInt8) (y : List UInt8) : cmpB [] (b :: y) = -1 := by unfold cmpB; rw [if_pos (by rfl)]
theorem cmpB_cons_nil (b : UInt8) (y : List UInt8) : cmpB (b :: y) [] = 1 := by unfold cmpB; rw [bl_nil]; simp

theorem down_cmp (W V : Nat) (s t : List UInt8) : ∀ i, cmpB (downN W i ++ s) (downN V i ++ t) = if W % 2 ^ (8 * i) = V % 2 ^ (8 * i) then cmpB s t else if W % 2 ^ (8 * i) < V % 2 ^ (8 * i) then -1 else 1
  | 0 => by simp [downN, Nat.mod_one]
  | i + 1 => by
    have ih := down_cmp W V s t i
    show cmpB (UInt8.ofNat (W / 2 ^ (8 * i)) :: (downN W i ++ s)) (UInt8.ofNat (V / 2 ^ (8 * i)) :: (downN V i ++ t)) = _
    rw [cmpB_cons, ih]
    have e : ∀ U : Nat, (UInt8.ofNat (U / 2 ^ (8 * i))).toNat = U / 2 ^ (8 * i) % 256 := fun U => by simp
    have d : ∀ U : Nat, U % 2 ^ (8 * (i + 1)) = U % 2 ^ (8 * i) + 2 ^ (8 * i) * (U / 2 ^ (8 * i) % 256) := fun U => by
      rw [show 8 * (i + 1) = 8 * i + 8 from by omega, Nat.pow_add, Nat.mod_mul]
    have q : (UInt8.ofNat (W / 2 ^ (8 * i)) = UInt8.ofNat (V / 2 ^ (8 * i))) ↔ W / 2 ^ (8 * i) % 256 = V / 2 ^ (8 * i) % 256 := by
      rw [← UInt8.toNat_inj, e, e]
    rw [e, e, d, d]
    have hP : 0 < 2 ^ (8 * i) := Nat.two_pow_pos _
    have hx : W % 2 ^ (8 * i) < 2 ^ (8 * i) := Nat.mod_lt _ hP
    have hy : V % 2 ^ (8 * i) < 2 ^ (8 * i) := Nat.mod_lt _ hP
    simp only [q]
    generalize W / 2 ^ (8 * i) % 256 = a at *
    generalize V / 2 ^ (8 * i) % 256 = b at *
    generalize W % 2 ^ (8 * i) = x at *
    generalize V % 2 ^ (8 * i) = y at *
    generalize 2 ^ (8 * i) = P at *
    by_cases h1 : a = b
    · subst h1
      by_cases h2 : x = y
      · simp [h2]
      · rw [if_pos rfl, if_neg h2, if_neg (show ¬ (x + P * a = y + P * a) by omega)]
        by_cases h3 : x < y
        · rw [if_pos h3, if_pos (show x + P * a < y + P * a by omega)]
        · rw [if_neg h3, if_neg (show ¬ (x + P * a < y + P * a) by omega)]
    · rw [if_neg h1]
      by_cases h2 : a < b
      · have := Nat.mul_le_mul_left P (show a + 1 ≤ b from h2)
        rw [Nat.mul_add] at this
        rw [if_pos h2, if_neg (by omega), if_pos (by omega)]
      · have := Nat.mul_le_mul_left P (show b + 1 ≤ a from by omega)
        rw [Nat.mul_add] at this
        rw [if_neg h2, if_neg (by omega), if_neg (by omega)]

theorem encN_cmp (n m : Int) (hn : -9223372036854775808 ≤ n ∧ n ≤ 9223372036854775807) (hm : -9223372036854775808 ≤ m ∧ m ≤ 9223372036854775807) (s t : List UInt8) :
    cmpB (encN n ++ s) (encN m ++ t) = if cmpI n m = 0 then cmpB s t else cmpI n m := by
  unfold encN
  rw [down_cmp]
  have h1 := wordN_lt n
  have h2 := wordN_lt m
  rw [show (2 : Nat) ^ (8 * 8) = 18446744073709551616 from rfl, Nat.mod_eq_of_lt h1, Nat.mod_eq_of_lt h2]
  have e1 : (wordN n : Int) = n + 9223372036854775808 := by unfold wordN; omega
  have e2 : (wordN m : Int) = m + 9223372036854775808 := by unfold wordN; omega
  generalize wordN n = a at *
  generalize wordN m = b at *
  unfold cmpI
  by_cases h3 : n < m
  · rw [if_neg (by omega), if_pos (by omega), if_pos h3]; simp
  · by_cases h4 : m < n
    · rw [if_neg (by omega), if_neg (by omega), if_neg h3, if_pos h4]; simp
    · rw [if_pos (by omega), if_neg h3, if_neg h4]; simp

theorem u8_pos {c : UInt8} (h : ¬ c = 0) : 0 < c.toNat := by
  rcases Nat.eq_zero_or_pos c.toNat with e | e
  · exact absurd (UInt8.toNat_inj.1 (by rw [e]; rfl)) h
  · exact e
theorem encT_cmp (s t : List UInt8) : ∀ a b : List UInt8, cmpB (encT a ++ 0 :: 0 :: s) (encT b ++ 0 :: 0 :: t) = if a = b then cmpB s t else cmpB a b
  | [], [] => by simp [encT, cmpB_cons]
  | [], c :: b => by
    rw [if_neg (by simp), cmpB_nil_cons]
    unfold encT
    by_cases hc : c = 0
    · rw [if_pos hc]; show cmpB (0 :: 0 :: s) (0 :: 255 :: (encT b ++ 0 :: 0 :: t)) = -1
      rw [cmpB_cons, if_pos rfl, cmpB_cons, if_neg (by decide), if_pos (by decide)]
    · rw [if_neg hc]; show cmpB (0 :: 0 :: s) (c :: (encT b ++ 0 :: 0 :: t)) = -1
      rw [cmpB_cons, if_neg (Ne.symm hc), if_pos (show (0 : UInt8).toNat < c.toNat from u8_pos hc)]
  | c :: a, [] => by
    rw [if_neg (by simp), cmpB_cons_nil]
    unfold encT
    by_cases hc : c = 0
    · rw [if_pos hc]; show cmpB (0 :: 255 :: (encT a ++ 0 :: 0 :: s)) (0 :: 0 :: t) = 1
      rw [cmpB_cons, if_pos rfl, cmpB_cons, if_neg (by decide), if_neg (by decide)]
    · rw [if_neg hc]; show cmpB (c :: (encT a ++ 0 :: 0 :: s)) (0 :: 0 :: t) = 1
      rw [cmpB_cons, if_neg hc, if_neg (by have := u8_pos hc; show ¬ c.toNat < 0; omega)]
  | c :: a, d :: b => by
    have ih := encT_cmp s t a b
    rw [cmpB_cons c d]
    by_cases hc : c = 0
    · by_cases hd : d = 0
      · subst hc; subst hd
        show cmpB (0 :: 255 :: (encT a ++ 0 :: 0 :: s)) (0 :: 255 :: (encT b ++ 0 :: 0 :: t)) = _
        rw [cmpB_cons, if_pos rfl, cmpB_cons, if_pos rfl, ih]
        by_cases e : a = b <;> simp [e]
      · rw [show encT (d :: b) = d :: encT b from if_neg hd]
        subst hc
        show cmpB (0 :: 255 :: (encT a ++ 0 :: 0 :: s)) (d :: (encT b ++ 0 :: 0 :: t)) = _
        have n1 : ¬ (0 : UInt8) = d := Ne.symm hd
        have n2 : ¬ (0 :: a = d :: b) := fun q => n1 (List.cons.inj q).1
        simp only [cmpB_cons, n1, n2, if_false]
    · rw [show encT (c :: a) = c :: encT a from if_neg hc]
      by_cases hd : d = 0
      · subst hd
        show cmpB (c :: (encT a ++ 0 :: 0 :: s)) (0 :: 255 :: (encT b ++ 0 :: 0 :: t)) = _
        have n2 : ¬ (c :: a = 0 :: b) := fun q => hc (List.cons.inj q).1
        simp only [cmpB_cons, hc, n2, if_false]
      · rw [show encT (d :: b) = d :: encT b from if_neg hd]
        show cmpB (c :: (encT a ++ 0 :: 0 :: s)) (d :: (encT b ++ 0 :: 0 :: t)) = _
        rw [cmpB_cons, ih]
        by_cases e : c = d
        · subst e
          by_cases e2 : a = b <;> simp [e2]
        · have n2 : ¬ (c :: a = d :: b) := fun q => e (List.cons.inj q).1
          simp only [e, n2, if_false]

theorem right_cases {x : S33} (h : rightV x = 0) : (x.f0 = 0 ∧ x.f1 = 0 ∧ txt x.f2 = []) ∨ (x.f0 = 1 ∧ (x.f1 = 0 ∨ x.f1 = 1) ∧ txt x.f2 = []) ∨ (x.f0 = 2 ∧ txt x.f2 = []) ∨ (x.f0 = 3 ∧ x.f1 = 0) := by
  unfold rightV at h
  by_cases h0 : x.f0 = 0
  · rw [if_pos h0] at h
    by_cases h1 : x.f1 = 0 ∧ txt x.f2 = []
    · exact .inl ⟨h0, h1⟩
    · rw [if_neg h1] at h; omega
  rw [if_neg h0] at h
  by_cases h1 : x.f0 = 1
  · rw [if_pos h1] at h
    by_cases h2 : (x.f1 = 0 ∨ x.f1 = 1) ∧ txt x.f2 = []
    · exact .inr (.inl ⟨h1, h2⟩)
    · rw [if_neg h2] at h; omega
  rw [if_neg h1] at h
  by_cases h2 : x.f0 = 2
  · rw [if_pos h2] at h
    by_cases h3 : txt x.f2 = []
    · exact .inr (.inr (.inl ⟨h2, h3⟩))
    · rw [if_neg h3] at h; omega
  rw [if_neg h2] at h
  by_cases h3 : x.f0 = 3
  · rw [if_pos h3] at h
    by_cases h4 : x.f1 = 0
    · exact .inr (.inr (.inr ⟨h3, h4⟩))
    · rw [if_neg h4] at h; omega
  · rw [if_neg h3] at h; omega

theorem ordS_txt (x y : S33) : ordS x y = if cmpI x.f0 y.f0 ≠ 0 then cmpI x.f0 y.f0 else if cmpI x.f1 y.f1 ≠ 0 then cmpI x.f1 y.f1 else cmpB (txt x.f2) (txt y.f2) := by
  unfold ordS ordV
  rw [cmpS_is, toList_txt, toList_txt]
theorem cmpI_self (n : Int) : cmpI n n = 0 := by unfold cmpI; simp

theorem enc_cmp (x y : S33) (hx : rightV x = 0) (hy : rightV y = 0) (ox : -9223372036854775808 ≤ x.f1 ∧ x.f1 ≤ 9223372036854775807) (oy : -9223372036854775808 ≤ y.f1 ∧ y.f1 ≤ 9223372036854775807) (s t : List UInt8) :
    cmpB (encB x ++ s) (encB y ++ t) = if ordS x y = 0 then cmpB s t else ordS x y := by
  rw [ordS_txt]
  unfold encB
  rcases right_cases hx with ⟨a0, a1, a2⟩ | ⟨a0, a1, a2⟩ | ⟨a0, a2⟩ | ⟨a0, a1⟩ <;> rcases right_cases hy with ⟨b0, b1, b2⟩ | ⟨b0, b1, b2⟩ | ⟨b0, b2⟩ | ⟨b0, b1⟩
  · simp [a0, a1, a2, b0, b1, b2, cmpI, cmpB_cons, cmpB_self]
  · rcases b1 with b1 | b1 <;> simp [a0, a1, a2, b0, b1, b2, cmpI, cmpB_cons, cmpB_self]
  · simp [a0, a1, a2, b0, b2, cmpI, cmpB_cons, cmpB_self]
  · simp [a0, a1, a2, b0, b1, cmpI, cmpB_cons, cmpB_self]
  · rcases a1 with a1 | a1 <;> simp [a0, a1, a2, b0, b1, b2, cmpI, cmpB_cons, cmpB_self]
  · rcases a1 with a1 | a1 <;> rcases b1 with b1 | b1 <;> simp [a0, a1, a2, b0, b1, b2, cmpI, cmpB_cons, cmpB_self]
  · rcases a1 with a1 | a1 <;> simp [a0, a1, a2, b0, b2, cmpI, cmpB_cons, cmpB_self]
  · rcases a1 with a1 | a1 <;> simp [a0, a1, a2, b0, b1, cmpI, cmpB_cons, cmpB_self]
  · simp [a0, a2, b0, b1, b2, cmpI, cmpB_cons, cmpB_self]
  · rcases b1 with b1 | b1 <;> simp [a0, a2, b0, b1, b2, cmpI, cmpB_cons, cmpB_self]
  · rw [a0, b0, a2, b2, cmpI_self, cmpB_self]
    have e := encN_cmp x.f1 y.f1 ox oy s t
    show cmpB (4 :: (encN x.f1 ++ s)) (4 :: (encN y.f1 ++ t)) = _
    rw [cmpB_cons, if_pos rfl, e]
    by_cases h : cmpI x.f1 y.f1 = 0 <;> simp [h]
  · simp [a0, a2, b0, b1, cmpI, cmpB_cons, cmpB_self]
  · simp [a0, a1, b0, b1, b2, cmpI, cmpB_cons, cmpB_self]
  · rcases b1 with b1 | b1 <;> simp [a0, a1, b0, b1, b2, cmpI, cmpB_cons, cmpB_self]
  · simp [a0, a1, b0, b2, cmpI, cmpB_cons, cmpB_self]
  · rw [a0, b0, a1, b1]
    have e := encT_cmp s t (txt x.f2) (txt y.f2)
    show cmpB (5 :: ((encT (txt x.f2) ++ [0, 0]) ++ s)) (5 :: ((encT (txt y.f2) ++ [0, 0]) ++ t)) = _
    rw [cmpB_cons, if_pos rfl, List.append_assoc, List.append_assoc]
    show cmpB (encT (txt x.f2) ++ 0 :: 0 :: s) (encT (txt y.f2) ++ 0 :: 0 :: t) = _
    rw [e]
    simp only [cmpI_self, ne_eq, not_true_eq_false, if_false]
    by_cases h : txt x.f2 = txt y.f2
    · rw [if_pos h, h, cmpB_self]; simp
    · have := lin_bytes.zero (txt x.f2) (txt y.f2)
      rw [if_neg h, if_neg (fun q => h (this.1 q))]

theorem encB_cons (x : S33) : ∃ b l, encB x = b :: l := by
  unfold encB
  split
  · exact ⟨_, _, rfl⟩
  · split
    · exact ⟨_, _, rfl⟩
    · split
      · exact ⟨_, _, rfl⟩
      · exact ⟨_, _, rfl⟩

theorem bytes_cmp : ∀ (l0 l1 : List S33), (∀ x ∈ l0, rightV x = 0 ∧ -9223372036854775808 ≤ x.f1 ∧ x.f1 ≤ 9223372036854775807) → (∀ x ∈ l1, rightV x = 0 ∧ -9223372036854775808 ≤ x.f1 ∧ x.f1 ≤ 9223372036854775807) →
    cmpB (bytesR l0) (bytesR l1) = ordL l0 l1
  | [], [], _, _ => by simp [bytesR, ordL, cmpB_self]
  | [], y :: l1, _, _ => by
    obtain ⟨b, l, e⟩ := encB_cons y
    show cmpB [] (encB y ++ bytesR l1) = -1
    rw [e]; exact cmpB_nil_cons _ _
  | x :: l0, [], _, _ => by
    obtain ⟨b, l, e⟩ := encB_cons x
    show cmpB (encB x ++ bytesR l0) [] = 1
    rw [e]; exact cmpB_cons_nil _ _
  | x :: l0, y :: l1, h0, h1 => by
    have ih := bytes_cmp l0 l1 (fun z hz => h0 z (by simp [hz])) (fun z hz => h1 z (by simp [hz]))
    show cmpB (encB x ++ bytesR l0) (encB y ++ bytesR l1) = if ordS x y = 0 then ordL l0 l1 else ordS x y
    rw [enc_cmp x y (h0 x (by simp)).1 (h1 y (by simp)).1 (h0 x (by simp)).2 (h1 y (by simp)).2, ih]
end Go.Proofs.Ythghflgmeepnlaa.Pa
