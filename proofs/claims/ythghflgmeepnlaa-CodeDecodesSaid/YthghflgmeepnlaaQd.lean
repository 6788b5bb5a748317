/- Plain laws of numbers: what value.Add, Sub, Mul, Div, Mod come to on numbers of 64 bits. -/
import Derived.Test.YthghflgmeepnlaaHa
import Derived.Lib.Mul64
import Derived.Laws.MathBits
namespace Go.Proofs.Ythghflgmeepnlaa.Pa
open Go.RowKit Go.Proofs.YthghflgmeepnlaaW.PrintWords Go.Proofs.YthghflgmeepnlaaW.PrintLast Go.Proofs.YthghflgmeepnlaaW.PrintMore
set_option linter.unusedVariables false
set_option linter.unusedSimpArgs false

theorem u64w (n : Nat) (h : n < 18446744073709551616) : IntKind.u64.wrap (n : Int) = (n : Int) := by
  rw [IntKind.wrap_u64]; omega
theorem low32 (x : Nat) (h : x < 18446744073709551616) : Go.bits .and .u64 (x : Int) 4294967295 = ((x % 4294967296 : Nat) : Int) := by
  rw [Go.and_low32 _ (by omega) (by omega)]; omega
theorem mul64_is (x y : Nat) (hx : x < 18446744073709551616) (hy : y < 18446744073709551616) : bits_Mul64.f (x : Int) (y : Int) = some (((x * y / 18446744073709551616 : Nat) : Int), ((x * y % 18446744073709551616 : Nat) : Int)) := by
  obtain ⟨h1, h2, h3, h4⟩ := Lib.mul64_hi x y hx hy
  have ha := Lib.half_mul_le (a := x / 4294967296) (b := y / 4294967296) (by omega) (by omega)
  have hb := Lib.half_mul_le (a := x / 4294967296) (b := y % 4294967296) (by omega) (by omega)
  have hc := Lib.half_mul_le (a := x % 4294967296) (b := y / 4294967296) (by omega) (by omega)
  have hxy : x * y / 18446744073709551616 < 18446744073709551616 := by
    rw [Nat.div_lt_iff_lt_mul (by omega)]
    exact Nat.mul_lt_mul'' hx hy
  unfold bits_Mul64.f
  rw [low32 x hx, low32 y hy]
  have c1 : (x : Int) / 4294967296 = ((x / 4294967296 : Nat) : Int) := by omega
  have c2 : (y : Int) / 4294967296 = ((y / 4294967296 : Nat) : Int) := by omega
  rw [c1, c2, ← Int.natCast_mul, ← Int.natCast_mul, ← Int.natCast_mul, ← Int.natCast_mul, ← Int.natCast_mul]
  generalize hA : x / 4294967296 * (y / 4294967296) = A at *
  generalize hB : x / 4294967296 * (y % 4294967296) = B at *
  generalize hC : x % 4294967296 * (y / 4294967296) = C at *
  generalize hD : x % 4294967296 * (y % 4294967296) = D at *
  rw [u64w A (by omega), u64w B (by omega), u64w C (by omega), u64w D (by omega)]
  have e1 : (B : Int) + (D : Int) / 4294967296 = ((B + D / 4294967296 : Nat) : Int) := by omega
  rw [e1, u64w _ (by omega), low32 _ (by omega)]
  have e2 : (A : Int) + ((B + D / 4294967296 : Nat) : Int) / 4294967296 = ((A + (B + D / 4294967296) / 4294967296 : Nat) : Int) := by omega
  have e3 : (((B + D / 4294967296) % 4294967296 : Nat) : Int) + (C : Int) = (((B + D / 4294967296) % 4294967296 + C : Nat) : Int) := by omega
  rw [e2, e3, u64w _ (by omega), u64w _ (by omega)]
  have e4 : ((A + (B + D / 4294967296) / 4294967296 : Nat) : Int) + (((B + D / 4294967296) % 4294967296 + C : Nat) : Int) / 4294967296 = ((A + (B + D / 4294967296) / 4294967296 + ((B + D / 4294967296) % 4294967296 + C) / 4294967296 : Nat) : Int) := by omega
  rw [e4, h4, u64w _ hxy, IntKind.wrap_u64]
  simp

def inR (n : Int) : Prop := -9223372036854775808 ≤ n ∧ n ≤ 9223372036854775807
theorem inR_of_wf {n : Int} (h : (Lit.int .i64 n).wf = true) : inR n := by
  simp only [Lit.wf, Bool.and_eq_true, decide_eq_true_eq] at h
  exact h
theorem size_pos (n : Nat) (h : n < 18446744073709551616) : value_size.f (n : Int) = some (n : Int) := by
  unfold value_size.f
  rw [if_neg (by omega), u64w n h]
theorem size_neg (n : Nat) (h0 : 0 < n) (h : n ≤ 9223372036854775808) : value_size.f (-(n : Int)) = some (n : Int) := by
  unfold value_size.f
  rw [if_pos (by omega), IntKind.wrap_u64, IntKind.wrap_u64]
  congr 1
  omega
def mulR (x y : Int) : Option (Int × Int) := if -9223372036854775808 ≤ x * y ∧ x * y ≤ 9223372036854775807 then some (x * y, 0) else some (0, 4)
theorem mul_pn (n m : Nat) : (n : Int) * -(m : Int) = -((n * m : Nat) : Int) := by rw [Int.mul_neg, Int.natCast_mul]
theorem wrap_in {x : Int} (h : inR x) : wrap64 x = x := by obtain ⟨h1, h2⟩ := h; unfold wrap64; omega
theorem mul_core (n m : Nat) (s : Bool) (x y : Int) (hx : value_size.f x = some (n : Int)) (hy : value_size.f y = some (m : Int)) (hn : n ≤ 9223372036854775808) (hm : m ≤ 9223372036854775808)
    (hs : ((decide (x < 0)) != (decide (y < 0))) = s) (hp : x * y = if s = true then -((n * m : Nat) : Int) else ((n * m : Nat) : Int)) : value_Mul_1.f x y = mulR x y := by
  unfold value_Mul_1.f mulR
  rw [hx, hy]
  simp only [Option.bind_some]
  rw [mul64_is n m (by omega) (by omega)]
  simp only [Option.bind_some]
  rw [hs]
  generalize n * m = P at *
  cases s with
  | true =>
    rw [if_pos rfl] at hp
    rw [hp, if_pos rfl]
    by_cases h1 : P ≤ 9223372036854775808
    · rw [if_neg (by omega), if_neg (by omega), if_pos ⟨by omega, by omega⟩, wrap_in ⟨by omega, by omega⟩]
    · rw [if_neg (by omega : ¬ (-9223372036854775808 ≤ -(P : Int) ∧ -(P : Int) ≤ 9223372036854775807))]
      by_cases h2 : P < 18446744073709551616
      · rw [if_neg (by omega), if_pos (by omega)]
      · rw [if_pos (by omega)]
  | false =>
    rw [if_neg (by simp)] at hp
    rw [hp, if_neg (by simp)]
    by_cases h1 : P ≤ 9223372036854775807
    · rw [if_neg (by omega), if_neg (by omega), if_pos ⟨by omega, by omega⟩, wrap_in ⟨by omega, by omega⟩]
    · rw [if_neg (by omega : ¬ (-9223372036854775808 ≤ (P : Int) ∧ (P : Int) ≤ 9223372036854775807))]
      by_cases h2 : P < 18446744073709551616
      · rw [if_neg (by omega), if_pos (by omega)]
      · rw [if_pos (by omega)]
theorem mul_is {x y : Int} (hx : inR x) (hy : inR y) : value_Mul_1.f x y = mulR x y := by
  obtain ⟨x1, x2⟩ := hx
  obtain ⟨y1, y2⟩ := hy
  by_cases a : x < 0
  · obtain ⟨n, rfl⟩ : ∃ n : Nat, x = -(n : Int) := ⟨x.natAbs, by omega⟩
    by_cases b : y < 0
    · obtain ⟨m, rfl⟩ : ∃ m : Nat, y = -(m : Int) := ⟨y.natAbs, by omega⟩
      exact mul_core n m false _ _ (size_neg n (by omega) (by omega)) (size_neg m (by omega) (by omega)) (by omega) (by omega) (by rw [decide_eq_true a, decide_eq_true b]; rfl) (by rw [Int.neg_mul_neg, if_neg (by simp), Int.natCast_mul])
    · obtain ⟨m, rfl⟩ : ∃ m : Nat, y = (m : Int) := ⟨y.natAbs, by omega⟩
      exact mul_core n m true _ _ (size_neg n (by omega) (by omega)) (size_pos m (by omega)) (by omega) (by omega) (by rw [decide_eq_true a, decide_eq_false b]; rfl) (by rw [Int.neg_mul, if_pos rfl, Int.natCast_mul])
  · obtain ⟨n, rfl⟩ : ∃ n : Nat, x = (n : Int) := ⟨x.natAbs, by omega⟩
    by_cases b : y < 0
    · obtain ⟨m, rfl⟩ : ∃ m : Nat, y = -(m : Int) := ⟨y.natAbs, by omega⟩
      exact mul_core n m true _ _ (size_pos n (by omega)) (size_neg m (by omega) (by omega)) (by omega) (by omega) (by rw [decide_eq_false a, decide_eq_true b]; rfl) (by rw [Int.mul_neg, if_pos rfl, Int.natCast_mul])
    · obtain ⟨m, rfl⟩ : ∃ m : Nat, y = (m : Int) := ⟨y.natAbs, by omega⟩
      exact mul_core n m false _ _ (size_pos n (by omega)) (size_pos m (by omega)) (by omega) (by omega) (by rw [decide_eq_false a, decide_eq_false b]; rfl) (by rw [if_neg (by simp), Int.natCast_mul])

def addR (x y : Int) : Option (Int × Int) := if -9223372036854775808 ≤ x + y ∧ x + y ≤ 9223372036854775807 then some (x + y, 0) else some (0, 4)
def subR (x y : Int) : Option (Int × Int) := if -9223372036854775808 ≤ x - y ∧ x - y ≤ 9223372036854775807 then some (x - y, 0) else some (0, 4)
theorem add_is {x y : Int} (hx : inR x) (hy : inR y) : value_Add_1.f x y = addR x y := by
  obtain ⟨x1, x2⟩ := hx
  obtain ⟨y1, y2⟩ := hy
  unfold value_Add_1.f addR
  by_cases h : -9223372036854775808 ≤ x + y ∧ x + y ≤ 9223372036854775807
  · rw [if_pos h, wrap_in h, if_pos]
    by_cases hy : y > 0
    · rw [decide_eq_true hy, decide_eq_true (by omega)]; simp
    · rw [decide_eq_false hy, decide_eq_false (by omega)]; simp
  · rw [if_neg h, if_neg]
    unfold wrap64
    by_cases hy : y > 0
    · rw [decide_eq_true hy, decide_eq_false (by omega)]; simp
    · rw [decide_eq_false hy, decide_eq_true (by omega)]; simp
theorem sub_is {x y : Int} (hx : inR x) (hy : inR y) : value_Sub_1.f x y = subR x y := by
  obtain ⟨x1, x2⟩ := hx
  obtain ⟨y1, y2⟩ := hy
  unfold value_Sub_1.f subR
  by_cases h : -9223372036854775808 ≤ x - y ∧ x - y ≤ 9223372036854775807
  · rw [if_pos h, wrap_in h, if_pos]
    by_cases hy : y > 0
    · rw [decide_eq_true hy, decide_eq_true (by omega)]; simp
    · rw [decide_eq_false hy, decide_eq_false (by omega)]; simp
  · rw [if_neg h, if_neg]
    unfold wrap64
    by_cases hy : y > 0
    · rw [decide_eq_true hy, decide_eq_false (by omega)]; simp
    · rw [decide_eq_false hy, decide_eq_true (by omega)]; simp
theorem reckon_int (c : Int → Int → Option (Int × Int)) (x y : Int) : reckon c 2 x 2 y = (c x y).bind fun p => if p.2 = 0 then some (2, p.1, ⟨#[]⟩, 0) else some (0, 0, ⟨#[]⟩, p.2) := by
  unfold reckon
  rw [if_pos (by simp), if_neg (by simp)]
theorem tdiv_in {x y : Int} (hx : inR x) (hy : y ≠ 0) (h : ¬ (x = -9223372036854775808 ∧ y = -1)) : inR (Int.tdiv x y) := by
  obtain ⟨x1, x2⟩ := hx
  have e : (Int.tdiv x y).natAbs = x.natAbs / y.natAbs := Int.natAbs_tdiv x y
  have l : x.natAbs / y.natAbs ≤ x.natAbs := Nat.div_le_self _ _
  generalize hq : Int.tdiv x y = q at *
  generalize hd : x.natAbs / y.natAbs = d at *
  by_cases hn : q.natAbs ≤ 9223372036854775807
  · exact ⟨by omega, by omega⟩
  · have hxa : x = -9223372036854775808 := by omega
    subst hxa
    have hy1 : y.natAbs = 1 := by
      rw [show (-9223372036854775808 : Int).natAbs = 9223372036854775808 from rfl] at hd
      rcases Nat.lt_or_ge 1 y.natAbs with h1 | h1
      · have := Nat.div_lt_self (n := 9223372036854775808) (k := y.natAbs) (by omega) h1
        omega
      · omega
    have hyc : y = 1 ∨ y = -1 := by omega
    rcases hyc with rfl | rfl
    · rw [Int.tdiv_one] at hq; exact ⟨by omega, by omega⟩
    · exact absurd ⟨rfl, rfl⟩ h
end Go.Proofs.Ythghflgmeepnlaa.Pa
