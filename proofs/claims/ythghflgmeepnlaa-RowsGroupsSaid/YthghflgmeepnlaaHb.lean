/- The contract of value.Less: any two values: null, an error, or which is smaller by value.Order. -/
import Derived.Test.YthghflgmeepnlaaPaG0
import Derived.Test.YthghflgmeepnlaaPaG3
namespace Go.Proofs.Ythghflgmeepnlaa.Pa
open Go.RowKit Go.Proofs.YthghflgmeepnlaaW.PrintWords Go.Proofs.YthghflgmeepnlaaW.PrintLast Go.Proofs.YthghflgmeepnlaaW.PrintMore
set_option linter.unusedVariables false
set_option linter.unusedSimpArgs false

theorem bcell' {W w1 : World} (hb : Below W.heap.size W w1) : (∀ b o, b < W.heap.size → w1.cell? ⟨b, o, none⟩ = W.cell? ⟨b, o, none⟩) ∧ (∀ b o, b < W.heap.size → w1.frozen? ⟨b, o, none⟩ = W.frozen? ⟨b, o, none⟩) :=
  ⟨fun b o h => hb.cell (p := ⟨b, o, none⟩) h, fun b o h => hb.frozen (p := ⟨b, o, none⟩) h⟩

def cmpI (x y : Int) : Int := if x < y then -1 else if y < x then 1 else 0
/-- How two values stand. -/
def ordV (a0 a1 : Int) (a2 : ByteArray) (b0 b1 : Int) (b2 : ByteArray) : Int :=
  if cmpI a0 b0 ≠ 0 then cmpI a0 b0 else if cmpI a1 b1 ≠ 0 then cmpI a1 b1 else cmpS a2 b2

theorem compare_int (x y : Int) : cmp_Compare_int.f x y = some (cmpI x y) := by
  unfold cmp_Compare_int.f cmp_isNaN_int.f cmpI
  by_cases h1 : x < y
  · simp [h1]
  · by_cases h2 : y < x
    · simp [h1, h2]
    · simp [h1, h2]

theorem or_three (k : Nat) (x y z : Int) : cmp_Or_int.f (k + 4) [x, y, z] = some (if x ≠ 0 then x else if y ≠ 0 then y else z) := by
  unfold cmp_Or_int.f
  have w1 : wrap64 1 = 1 := by unfold wrap64; omega
  have w2 : wrap64 2 = 2 := by unfold wrap64; omega
  have w3 : wrap64 3 = 3 := by unfold wrap64; omega
  by_cases hx : x = 0
  · by_cases hy : y = 0
    · by_cases hz : z = 0 <;> simp [cmp_Or_int.l0, rd, w1, w2, w3, hx, hy, hz]
    · simp [cmp_Or_int.l0, rd, w1, w2, w3, hx, hy]
  · simp [cmp_Or_int.l0, rd, hx]

theorem order_is (k : Nat) (a0 a1 : Int) (a2 : ByteArray) (b0 b1 : Int) (b2 : ByteArray) : value_Order.f (k + 4) a0 a1 a2 b0 b1 b2 = some (ordV a0 a1 a2 b0 b1 b2) := by
  unfold value_Order.f
  simp only [compare_int, cmp_Compare_string.f, Option.bind_some, or_three, ordV]

theorem less_1 (n : Int) (b : Bool) (hb : decide (n < 0) = b) (w : World) : Calls Try.prog 89 #[.int .i64 n] w fun e w' => e = .returned (.bool b) ∧ w = w' := by
  go_enter Try.func89, Try.ntmps89
  go_wp2
  go_ret
  exact ⟨rfl, rfl⟩

set_option maxRecDepth 100000 in
set_option maxHeartbeats 1000000 in
theorem held_lt (a0_0 a0_1 : Int) (a0_2 : ByteArray) (a1_0 a1_1 : Int) (a1_2 : ByteArray) (w : World)
    (h0 : (a0_0 == 0) = false) (h1 : (a1_0 == 0) = false) (h2 : (a0_0 != a1_0) = false) (n : Int) (hn : ordV a0_0 a0_1 a0_2 a1_0 a1_1 a1_2 = n) (b : Bool) (hb : decide (n < 0) = b) (m : Int) (hm : value_Bool.f b = some (1, m, ⟨#[]⟩)) :
    Calls Try.prog 88 #[.agg #[.int .i64 a0_0, .int .i64 a0_1, .string a0_2], .agg #[.int .i64 a1_0, .int .i64 a1_1, .string a1_2], .func (.func 89) #[] #[]] w
      fun e w' => e = .returned (.tuple #[.agg #[.int .i64 1, .int .i64 m, .string ⟨#[]⟩], .int .i64 0]) ∧ Below w.heap.size w w' := by
  have hu33 := Try.underlying33
  have H := Aside0.mk (show value_Order.f 4 a0_0 a0_1 a0_2 a1_0 a1_1 a1_2 = some n by rw [← hn]; exact order_is 0 _ _ _ _ _ _)
  have HM := Aside0.mk hm
  clear hn hm
  go_enter Try.func88, Try.ntmps88
  go_wp2_with fail
  refine (value_Order.calls 4 _ _ _ _ _ _ n _ H.out).mono ?_
  rintro e w1 ⟨rfl, hb1⟩
  have HB1 := Aside0.mk (below_step (below_alloc (below_alloc (below_alloc (Below.refl w.heap.size w) _) _) _) hb1)
  obtain ⟨hc1, hf1⟩ := bcell' hb1
  have hz1 : w.heap.size + 2 < w1.heap.size := by have := hb1.size; simp at this; omega
  go_wp2_with fail
  refine (less_1 n b hb _).mono ?_
  rintro e w2 ⟨rfl, rfl⟩
  go_wp2_with fail
  refine (value_Bool.calls b 1 m ⟨#[]⟩ _ HM.out).mono ?_
  rintro e w2 ⟨rfl, hb2⟩
  have HB2 := Aside0.mk (below_step HB1.out hb2)
  have hc2 : ∀ b o, b < w1.heap.size → w2.cell? ⟨b, o, none⟩ = w1.cell? ⟨b, o, none⟩ := (bcell' hb2).1
  have hf2 : ∀ b o, b < w1.heap.size → w2.frozen? ⟨b, o, none⟩ = w1.frozen? ⟨b, o, none⟩ := (bcell' hb2).2
  have hz2 : w.heap.size + 2 < w2.heap.size := by have := hb2.size; omega
  clear hb2
  go_wp2_with fail
  refine bodyPost_ret (v := .tuple #[.agg #[.int .i64 1, .int .i64 m, .string ⟨#[]⟩], .int .i64 0]) (by simp [results, Try.results88, go_sem, hc2, hc1, hz1, hz2]) rfl ⟨rfl, ?_⟩
  repeat (first | exact HB2.out | refine below_set ?_ (by omega))

set_option maxRecDepth 100000 in
set_option maxHeartbeats 1000000 in
theorem held_null (g : Nat) (a0_0 a0_1 : Int) (a0_2 : ByteArray) (a1_0 a1_1 : Int) (a1_2 : ByteArray) (w : World)
    (c : Bool) (h0 : (a0_0 == 0) = c) (h1 : c = true ∨ (a1_0 == 0) = true) :
    Calls Try.prog 88 #[.agg #[.int .i64 a0_0, .int .i64 a0_1, .string a0_2], .agg #[.int .i64 a1_0, .int .i64 a1_1, .string a1_2], .func (.func g) #[] #[]] w
      fun e w' => e = .returned (.tuple #[.agg #[.int .i64 0, .int .i64 0, .string ⟨#[]⟩], .int .i64 0]) ∧ Below w.heap.size w w' := by
  have hu33 := Try.underlying33
  have hg : c = true ∨ (c = false ∧ (a1_0 == 0) = true) := by cases c <;> simp_all
  clear h1
  rcases hg with rfl | ⟨rfl, h1⟩
  all_goals
    go_enter Try.func88, Try.ntmps88
    go_wp2_with fail
    refine (value_Null.calls 0 0 ⟨#[]⟩ _ rfl).mono ?_
    rintro e w2 ⟨rfl, hb2⟩
    have HB2 := Aside0.mk (below_step (below_alloc (below_alloc (below_alloc (Below.refl w.heap.size w) _) _) _) hb2)
    obtain ⟨hc2, hf2⟩ := bcell' hb2
    have hz2 : w.heap.size + 2 < w2.heap.size := by have := hb2.size; simp at this; omega
    clear hb2
    go_wp2_with fail
    refine bodyPost_ret (v := .tuple #[.agg #[.int .i64 0, .int .i64 0, .string ⟨#[]⟩], .int .i64 0]) (by simp [results, Try.results88, go_sem, hc2, hz2]) rfl ⟨rfl, ?_⟩
    repeat (first | exact HB2.out | refine below_set ?_ (by omega))

set_option maxRecDepth 100000 in
set_option maxHeartbeats 1000000 in
theorem held_ne (g : Nat) (a0_0 a0_1 : Int) (a0_2 : ByteArray) (a1_0 a1_1 : Int) (a1_2 : ByteArray) (w : World)
    (h0 : (a0_0 == 0) = false) (h1 : (a1_0 == 0) = false) (h2 : (a0_0 != a1_0) = true) :
    Calls Try.prog 88 #[.agg #[.int .i64 a0_0, .int .i64 a0_1, .string a0_2], .agg #[.int .i64 a1_0, .int .i64 a1_1, .string a1_2], .func (.func g) #[] #[]] w
      fun e w' => e = .returned (.tuple #[.agg #[.int .i64 0, .int .i64 0, .string ⟨#[]⟩], .int .i64 3]) ∧ Below w.heap.size w w' := by
  have hu33 := Try.underlying33
  go_enter Try.func88, Try.ntmps88
  go_wp2_with fail
  refine (value_Null.calls 0 0 ⟨#[]⟩ _ rfl).mono ?_
  rintro e w2 ⟨rfl, hb2⟩
  have HB2 := Aside0.mk (below_step (below_alloc (below_alloc (below_alloc (Below.refl w.heap.size w) _) _) _) hb2)
  obtain ⟨hc2, hf2⟩ := bcell' hb2
  have hz2 : w.heap.size + 2 < w2.heap.size := by have := hb2.size; simp at this; omega
  clear hb2
  go_wp2_with fail
  refine bodyPost_ret (v := .tuple #[.agg #[.int .i64 0, .int .i64 0, .string ⟨#[]⟩], .int .i64 3]) (by simp [results, Try.results88, go_sem, hc2, hz2]) rfl ⟨rfl, ?_⟩
  repeat (first | exact HB2.out | refine below_set ?_ (by omega))

/-- What value.Less comes to. -/
def value_Less.f (a0_0 a0_1 : Int) (a0_2 : ByteArray) (a1_0 a1_1 : Int) (a1_2 : ByteArray) : Option (Int × Int × ByteArray × Int) :=
  if a0_0 = 0 ∨ a1_0 = 0 then some (0, 0, ⟨#[]⟩, 0) else if a0_0 ≠ a1_0 then some (0, 0, ⟨#[]⟩, 3)
  else some (1, if ordV a0_0 a0_1 a0_2 a1_0 a1_1 a1_2 < 0 then 1 else 0, ⟨#[]⟩, 0)

theorem less_held (a0_0 a0_1 : Int) (a0_2 : ByteArray) (a1_0 a1_1 : Int) (a1_2 : ByteArray) (r1 r2 : Int) (r3 : ByteArray) (r4 : Int) (h : value_Less.f a0_0 a0_1 a0_2 a1_0 a1_1 a1_2 = some (r1, r2, r3, r4)) (w : World) :
    Calls Try.prog 88 #[.agg #[.int .i64 a0_0, .int .i64 a0_1, .string a0_2], .agg #[.int .i64 a1_0, .int .i64 a1_1, .string a1_2], .func (.func 89) #[] #[]] w
      fun e w' => e = .returned (.tuple #[.agg #[.int .i64 r1, .int .i64 r2, .string r3], .int .i64 r4]) ∧ Below w.heap.size w w' := by
  unfold value_Less.f at h
  by_cases h0 : a0_0 = 0 ∨ a1_0 = 0
  · rw [if_pos h0] at h
    simp only [Option.some.injEq, Prod.mk.injEq] at h
    obtain ⟨rfl, rfl, rfl, rfl⟩ := h
    exact held_null 89 _ _ _ _ _ _ w _ rfl (by rcases h0 with h | h <;> simp [h])
  · rw [if_neg h0] at h
    have k0 : (a0_0 == 0) = false := beq_eq_false_iff_ne.2 (fun e => h0 (.inl e))
    have k1 : (a1_0 == 0) = false := beq_eq_false_iff_ne.2 (fun e => h0 (.inr e))
    by_cases h2 : a0_0 = a1_0
    · rw [if_neg (by simp [h2])] at h
      simp only [Option.some.injEq, Prod.mk.injEq] at h
      obtain ⟨rfl, rfl, rfl, rfl⟩ := h
      refine held_lt _ _ _ _ _ _ w k0 k1 (by simp [h2]) _ rfl _ rfl _ ?_
      by_cases hn : ordV a0_0 a0_1 a0_2 a1_0 a1_1 a1_2 < 0 <;> simp [value_Bool.f, hn]
    · rw [if_pos h2] at h
      simp only [Option.some.injEq, Prod.mk.injEq] at h
      obtain ⟨rfl, rfl, rfl, rfl⟩ := h
      exact held_ne 89 _ _ _ _ _ _ w k0 k1 (by simp [h2])

set_option maxRecDepth 100000 in
set_option maxHeartbeats 1000000 in
theorem value_Less.calls (a0_0 : Int) (a0_1 : Int) (a0_2 : ByteArray) (a1_0 : Int) (a1_1 : Int) (a1_2 : ByteArray) (r1 : Int) (r2 : Int) (r3 : ByteArray) (r4 : Int) (w : World) (h : value_Less.f a0_0 a0_1 a0_2 a1_0 a1_1 a1_2 = some (r1, r2, r3, r4)) :
    Calls Try.prog 51 #[.agg #[.int .i64 a0_0, .int .i64 a0_1, .string a0_2], .agg #[.int .i64 a1_0, .int .i64 a1_1, .string a1_2]] w fun e w' => e = .returned (.tuple #[.agg #[.int .i64 r1, .int .i64 r2, .string r3], .int .i64 r4]) ∧ Below w.heap.size w w' := by
  have hu33 := Try.underlying33
  have H := Aside0.mk (less_held a0_0 a0_1 a0_2 a1_0 a1_1 a1_2 r1 r2 r3 r4 h)
  clear h
  go_enter Try.func51, Try.ntmps51
  go_wp2_with fail
  refine (H.out _).mono ?_
  rintro e w1 ⟨rfl, hb1⟩
  have HB1 := Aside0.mk (below_step (below_alloc (below_alloc (below_alloc (Below.refl w.heap.size w) _) _) _) hb1)
  obtain ⟨hc1, hf1⟩ := bcell' hb1
  have hz1 : w.heap.size + 2 < w1.heap.size := by have := hb1.size; simp at this; omega
  go_wp2_with fail
  refine bodyPost_ret (v := .tuple #[.agg #[.int .i64 r1, .int .i64 r2, .string r3], .int .i64 r4]) (by simp [results, Try.results51, go_sem, hc1, hz1]) rfl ⟨rfl, ?_⟩
  repeat (first | exact HB1.out | refine below_set ?_ (by omega))
end Go.Proofs.Ythghflgmeepnlaa.Pa
