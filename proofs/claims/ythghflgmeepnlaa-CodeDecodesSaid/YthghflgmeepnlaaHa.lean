/- The contracts of value.number and of Add, Sub, Mul, Div, Mod: two values, any; what the closure says. -/
import Derived.Test.YthghflgmeepnlaaPaG0
import Derived.Test.YthghflgmeepnlaaPaG10
namespace Go.Proofs.Ythghflgmeepnlaa.Pa
open Go.RowKit Go.Proofs.YthghflgmeepnlaaW.PrintWords Go.Proofs.YthghflgmeepnlaaW.PrintLast Go.Proofs.YthghflgmeepnlaaW.PrintMore
set_option linter.unusedVariables false
set_option linter.unusedSimpArgs false

/-- What value.number comes to, by what the closure says. -/
def reckon (c : Int → Int → Option (Int × Int)) (a0_0 a0_1 a1_0 a1_1 : Int) : Option (Int × Int × ByteArray × Int) :=
  if (a0_0 = 0 ∨ a0_0 = 2) ∧ (a1_0 = 0 ∨ a1_0 = 2) then
    if a0_0 = 0 ∨ a1_0 = 0 then some (0, 0, ⟨#[]⟩, 0)
    else (c a0_1 a1_1).bind fun p => if p.2 = 0 then some (2, p.1, ⟨#[]⟩, 0) else some (0, 0, ⟨#[]⟩, p.2)
  else some (0, 0, ⟨#[]⟩, 3)


theorem reckon_cases {c : Int → Int → Option (Int × Int)} {x0 x1 y0 y1 r1 r2 : Int} {r3 : ByteArray} {r4 : Int} (h : reckon c x0 x1 y0 y1 = some (r1, r2, r3, r4)) :
    ((∃ b, ∀ s t, value_fit.f x0 x1 s y0 y1 t 2 = some (false, b)) ∧ r1 = 0 ∧ r2 = 0 ∧ r3 = ⟨#[]⟩ ∧ r4 = 3) ∨
    ((∀ s t, value_fit.f x0 x1 s y0 y1 t 2 = some (true, true)) ∧ r1 = 0 ∧ r2 = 0 ∧ r3 = ⟨#[]⟩ ∧ r4 = 0) ∨
    ((∀ s t, value_fit.f x0 x1 s y0 y1 t 2 = some (true, false)) ∧ c x1 y1 = some (r2, 0) ∧ r1 = 2 ∧ r3 = ⟨#[]⟩ ∧ r4 = 0) ∨
    ((∀ s t, value_fit.f x0 x1 s y0 y1 t 2 = some (true, false)) ∧ ∃ n, c x1 y1 = some (n, r4) ∧ r4 ≠ 0 ∧ r1 = 0 ∧ r2 = 0 ∧ r3 = ⟨#[]⟩) := by
  unfold reckon at h
  unfold value_fit.f
  by_cases h1 : (x0 = 0 ∨ x0 = 2) ∧ (y0 = 0 ∨ y0 = 2)
  · rw [if_pos h1] at h
    obtain ⟨hx, hy⟩ := h1
    by_cases h2 : x0 = 0 ∨ y0 = 0
    · rw [if_pos h2] at h
      simp only [Option.some.injEq, Prod.mk.injEq] at h
      obtain ⟨rfl, rfl, rfl, rfl⟩ := h
      right; left
      refine ⟨fun s t => ?_, rfl, rfl, rfl, rfl⟩
      rcases hx with rfl | rfl <;> rcases hy with rfl | rfl <;> simp at h2 ⊢
    · rw [if_neg h2] at h
      obtain ⟨⟨n, e⟩, hc, h⟩ := Option.bind_eq_some_iff.1 h
      have hx2 : x0 = 2 := by omega
      have hy2 : y0 = 2 := by omega
      subst hx2 hy2
      by_cases he : e = 0
      · subst he
        simp at h
        obtain ⟨rfl, rfl, rfl, rfl⟩ := h
        right; right; left
        exact ⟨fun s t => by simp, hc, rfl, rfl, rfl⟩
      · simp [he] at h
        obtain ⟨rfl, rfl, rfl, rfl⟩ := h
        right; right; right
        exact ⟨fun s t => by simp, n, hc, he, rfl, rfl, rfl⟩
  · rw [if_neg h1] at h
    simp only [Option.some.injEq, Prod.mk.injEq] at h
    obtain ⟨rfl, rfl, rfl, rfl⟩ := h
    left
    refine ⟨?_, rfl, rfl, rfl, rfl⟩
    by_cases hx0 : x0 = 0
    · subst hx0
      have hy : ¬ y0 = 0 ∧ ¬ y0 = 2 := by omega
      exact ⟨true, fun s t => by simp [hy.1, hy.2]⟩
    · by_cases hx2 : x0 = 2
      · subst hx2
        have hy : ¬ y0 = 0 ∧ ¬ y0 = 2 := by omega
        exact ⟨(y0 == 0), fun s t => by simp [hy.1, hy.2]⟩
      · exact ⟨(y0 == 0), fun s t => by simp [hx0, hx2]⟩

theorem bcell {W w1 : World} (hb : Below W.heap.size W w1) : (∀ b o, b < W.heap.size → w1.cell? ⟨b, o, none⟩ = W.cell? ⟨b, o, none⟩) ∧ (∀ b o, b < W.heap.size → w1.frozen? ⟨b, o, none⟩ = W.frozen? ⟨b, o, none⟩) :=
  ⟨fun b o h => hb.cell (p := ⟨b, o, none⟩) h, fun b o h => hb.frozen (p := ⟨b, o, none⟩) h⟩

set_option maxRecDepth 100000 in
set_option maxHeartbeats 1000000 in
theorem number_bad (g : Nat) (a0_0 a0_1 : Int) (a0_2 : ByteArray) (a1_0 a1_1 : Int) (a1_2 : ByteArray) (b : Bool) (w : World)
    (h : value_fit.f a0_0 a0_1 a0_2 a1_0 a1_1 a1_2 2 = some (false, b)) :
    Calls Try.prog 75 #[.agg #[.int .i64 a0_0, .int .i64 a0_1, .string a0_2], .agg #[.int .i64 a1_0, .int .i64 a1_1, .string a1_2], .func (.func g) #[] #[]] w
      fun e w' => e = .returned (.tuple #[.agg #[.int .i64 0, .int .i64 0, .string ⟨#[]⟩], .int .i64 3]) ∧ Below w.heap.size w w' := by
  have hu33 := Try.underlying33
  have H := Aside0.mk h
  clear h
  go_enter Try.func75, Try.ntmps75
  go_wp2_with fail
  refine (value_fit.calls _ _ _ _ _ _ _ false b _ H.out).mono ?_
  rintro e w1 ⟨rfl, hb1⟩
  have HB1 := Aside0.mk (below_step (below_alloc (below_alloc (below_alloc (Below.refl w.heap.size w) _) _) _) hb1)
  obtain ⟨hc1, hf1⟩ := bcell hb1
  have hz1 : w.heap.size + 2 < w1.heap.size := by have := hb1.size; simp at this; omega
  go_wp2_with fail
  refine (value_Null.calls 0 0 ⟨#[]⟩ _ rfl).mono ?_
  rintro e w2 ⟨rfl, hb2⟩
  have HB2 := Aside0.mk (below_step HB1.out hb2)
  obtain ⟨hc2, hf2⟩ := bcell hb2
  have hz2 : w.heap.size + 2 < w2.heap.size := by have := hb2.size; omega
  go_wp2_with fail
  refine bodyPost_ret (v := .tuple #[.agg #[.int .i64 0, .int .i64 0, .string ⟨#[]⟩], .int .i64 3]) (by simp [results, Try.results75, go_sem, hc2, hc1, hz1, hz2]) rfl ⟨rfl, ?_⟩
  repeat (first | exact HB2.out | refine below_set ?_ (by omega))

set_option maxRecDepth 100000 in
set_option maxHeartbeats 1000000 in
theorem number_null (g : Nat) (a0_0 a0_1 : Int) (a0_2 : ByteArray) (a1_0 a1_1 : Int) (a1_2 : ByteArray) (w : World)
    (h : value_fit.f a0_0 a0_1 a0_2 a1_0 a1_1 a1_2 2 = some (true, true)) :
    Calls Try.prog 75 #[.agg #[.int .i64 a0_0, .int .i64 a0_1, .string a0_2], .agg #[.int .i64 a1_0, .int .i64 a1_1, .string a1_2], .func (.func g) #[] #[]] w
      fun e w' => e = .returned (.tuple #[.agg #[.int .i64 0, .int .i64 0, .string ⟨#[]⟩], .int .i64 0]) ∧ Below w.heap.size w w' := by
  have hu33 := Try.underlying33
  have H := Aside0.mk h
  clear h
  go_enter Try.func75, Try.ntmps75
  go_wp2_with fail
  refine (value_fit.calls _ _ _ _ _ _ _ true true _ H.out).mono ?_
  rintro e w1 ⟨rfl, hb1⟩
  have HB1 := Aside0.mk (below_step (below_alloc (below_alloc (below_alloc (Below.refl w.heap.size w) _) _) _) hb1)
  obtain ⟨hc1, hf1⟩ := bcell hb1
  have hz1 : w.heap.size + 2 < w1.heap.size := by have := hb1.size; simp at this; omega
  go_wp2_with fail
  refine (value_Null.calls 0 0 ⟨#[]⟩ _ rfl).mono ?_
  rintro e w2 ⟨rfl, hb2⟩
  have HB2 := Aside0.mk (below_step HB1.out hb2)
  obtain ⟨hc2, hf2⟩ := bcell hb2
  have hz2 : w.heap.size + 2 < w2.heap.size := by have := hb2.size; omega
  go_wp2_with fail
  refine bodyPost_ret (v := .tuple #[.agg #[.int .i64 0, .int .i64 0, .string ⟨#[]⟩], .int .i64 0]) (by simp [results, Try.results75, go_sem, hc2, hc1, hz1, hz2]) rfl ⟨rfl, ?_⟩
  repeat (first | exact HB2.out | refine below_set ?_ (by omega))

-- FIVE CLOSURES (by gen_ha.py)

set_option maxRecDepth 100000 in
set_option maxHeartbeats 1000000 in
theorem number_Mul_ok (a0_0 a0_1 : Int) (a0_2 : ByteArray) (a1_0 a1_1 : Int) (a1_2 : ByteArray) (n : Int) (w : World)
    (h : value_fit.f a0_0 a0_1 a0_2 a1_0 a1_1 a1_2 2 = some (true, false)) (hc : value_Mul_1.f a0_1 a1_1 = some (n, 0)) :
    Calls Try.prog 75 #[.agg #[.int .i64 a0_0, .int .i64 a0_1, .string a0_2], .agg #[.int .i64 a1_0, .int .i64 a1_1, .string a1_2], .func (.func 76) #[] #[]] w
      fun e w' => e = .returned (.tuple #[.agg #[.int .i64 2, .int .i64 n, .string ⟨#[]⟩], .int .i64 0]) ∧ Below w.heap.size w w' := by
  have hu33 := Try.underlying33
  have H := Aside0.mk h
  have HC := Aside0.mk hc
  clear h hc
  go_enter Try.func75, Try.ntmps75
  go_wp2_with fail
  refine (value_fit.calls _ _ _ _ _ _ _ true false _ H.out).mono ?_
  rintro e w1 ⟨rfl, hb1⟩
  have HB1 := Aside0.mk (below_step (below_alloc (below_alloc (below_alloc (Below.refl w.heap.size w) _) _) _) hb1)
  obtain ⟨hc1, hf1⟩ := bcell hb1
  have hz1 : w.heap.size + 2 < w1.heap.size := by have := hb1.size; simp at this; omega
  go_wp2_with fail
  refine (value_Mul_1.calls _ _ n 0 _ HC.out).mono ?_
  rintro e w2 ⟨rfl, ⟨m, rfl⟩⟩
  go_wp2_with fail
  refine (value_Int.calls n 2 n ⟨#[]⟩ _ rfl).mono ?_
  rintro e w2 ⟨rfl, hb2⟩
  have HB2 := Aside0.mk (below_step (pw_below_drewN HB1.out m) hb2)
  have hc2 : ∀ b o, b < w1.heap.size → w2.cell? ⟨b, o, none⟩ = w1.cell? ⟨b, o, none⟩ := (bcell hb2).1
  have hf2 : ∀ b o, b < w1.heap.size → w2.frozen? ⟨b, o, none⟩ = w1.frozen? ⟨b, o, none⟩ := (bcell hb2).2
  have hz2 : w.heap.size + 2 < w2.heap.size := by have := hb2.size; simp at this; omega
  clear hb2
  go_wp2_with fail
  refine bodyPost_ret (v := .tuple #[.agg #[.int .i64 2, .int .i64 n, .string ⟨#[]⟩], .int .i64 0]) (by simp [results, Try.results75, go_sem, hc2, hc1, hz1, hz2]) rfl ⟨rfl, ?_⟩
  repeat (first | exact HB2.out | refine below_set ?_ (by omega))

set_option maxRecDepth 100000 in
set_option maxHeartbeats 1000000 in
theorem number_Mul_err (a0_0 a0_1 : Int) (a0_2 : ByteArray) (a1_0 a1_1 : Int) (a1_2 : ByteArray) (n r : Int) (w : World)
    (h : value_fit.f a0_0 a0_1 a0_2 a1_0 a1_1 a1_2 2 = some (true, false)) (hc : value_Mul_1.f a0_1 a1_1 = some (n, r)) (hr : (r == 0) = false) (hr2 : (r != 0) = true) :
    Calls Try.prog 75 #[.agg #[.int .i64 a0_0, .int .i64 a0_1, .string a0_2], .agg #[.int .i64 a1_0, .int .i64 a1_1, .string a1_2], .func (.func 76) #[] #[]] w
      fun e w' => e = .returned (.tuple #[.agg #[.int .i64 0, .int .i64 0, .string ⟨#[]⟩], .int .i64 r]) ∧ Below w.heap.size w w' := by
  have hu33 := Try.underlying33
  have H := Aside0.mk h
  have HC := Aside0.mk hc
  clear h hc
  go_enter Try.func75, Try.ntmps75
  go_wp2_with fail
  refine (value_fit.calls _ _ _ _ _ _ _ true false _ H.out).mono ?_
  rintro e w1 ⟨rfl, hb1⟩
  have HB1 := Aside0.mk (below_step (below_alloc (below_alloc (below_alloc (Below.refl w.heap.size w) _) _) _) hb1)
  obtain ⟨hc1, hf1⟩ := bcell hb1
  have hz1 : w.heap.size + 2 < w1.heap.size := by have := hb1.size; simp at this; omega
  go_wp2_with fail
  refine (value_Mul_1.calls _ _ n r _ HC.out).mono ?_
  rintro e w2 ⟨rfl, ⟨m, rfl⟩⟩
  go_wp2_with fail
  refine (value_Null.calls 0 0 ⟨#[]⟩ _ rfl).mono ?_
  rintro e w2 ⟨rfl, hb2⟩
  have HB2 := Aside0.mk (below_step (pw_below_drewN HB1.out m) hb2)
  have hc2 : ∀ b o, b < w1.heap.size → w2.cell? ⟨b, o, none⟩ = w1.cell? ⟨b, o, none⟩ := (bcell hb2).1
  have hf2 : ∀ b o, b < w1.heap.size → w2.frozen? ⟨b, o, none⟩ = w1.frozen? ⟨b, o, none⟩ := (bcell hb2).2
  have hz2 : w.heap.size + 2 < w2.heap.size := by have := hb2.size; simp at this; omega
  clear hb2
  go_wp2_with fail
  refine bodyPost_ret (v := .tuple #[.agg #[.int .i64 0, .int .i64 0, .string ⟨#[]⟩], .int .i64 r]) (by simp [results, Try.results75, go_sem, hc2, hc1, hz1, hz2]) rfl ⟨rfl, ?_⟩
  repeat (first | exact HB2.out | refine below_set ?_ (by omega))

theorem number_Mul (a0_0 a0_1 : Int) (a0_2 : ByteArray) (a1_0 a1_1 : Int) (a1_2 : ByteArray) (r1 r2 : Int) (r3 : ByteArray) (r4 : Int) (h : reckon value_Mul_1.f a0_0 a0_1 a1_0 a1_1 = some (r1, r2, r3, r4)) (w : World) :
    Calls Try.prog 75 #[.agg #[.int .i64 a0_0, .int .i64 a0_1, .string a0_2], .agg #[.int .i64 a1_0, .int .i64 a1_1, .string a1_2], .func (.func 76) #[] #[]] w
      fun e w' => e = .returned (.tuple #[.agg #[.int .i64 r1, .int .i64 r2, .string r3], .int .i64 r4]) ∧ Below w.heap.size w w' := by
  rcases reckon_cases h with ⟨⟨b, hf⟩, rfl, rfl, rfl, rfl⟩ | ⟨hf, rfl, rfl, rfl, rfl⟩ | ⟨hf, hc, rfl, rfl, rfl⟩ | ⟨hf, n, hc, hr, rfl, rfl, rfl⟩
  · exact number_bad 76 _ _ _ _ _ _ b w (hf a0_2 a1_2)
  · exact number_null 76 _ _ _ _ _ _ w (hf a0_2 a1_2)
  · exact number_Mul_ok _ _ _ _ _ _ r2 w (hf a0_2 a1_2) hc
  · exact number_Mul_err _ _ _ _ _ _ n r4 w (hf a0_2 a1_2) hc (beq_eq_false_iff_ne.2 hr) (bne_iff_ne.2 hr)

def value_Mul.f (a0_0 a0_1 : Int) (a0_2 : ByteArray) (a1_0 a1_1 : Int) (a1_2 : ByteArray) : Option (Int × Int × ByteArray × Int) := reckon value_Mul_1.f a0_0 a0_1 a1_0 a1_1

set_option maxRecDepth 100000 in
set_option maxHeartbeats 1000000 in
theorem value_Mul.calls (a0_0 : Int) (a0_1 : Int) (a0_2 : ByteArray) (a1_0 : Int) (a1_1 : Int) (a1_2 : ByteArray) (r1 : Int) (r2 : Int) (r3 : ByteArray) (r4 : Int) (w : World) (h : value_Mul.f a0_0 a0_1 a0_2 a1_0 a1_1 a1_2 = some (r1, r2, r3, r4)) :
    Calls Try.prog 42 #[.agg #[.int .i64 a0_0, .int .i64 a0_1, .string a0_2], .agg #[.int .i64 a1_0, .int .i64 a1_1, .string a1_2]] w fun e w' => e = .returned (.tuple #[.agg #[.int .i64 r1, .int .i64 r2, .string r3], .int .i64 r4]) ∧ Below w.heap.size w w' := by
  have hu33 := Try.underlying33
  have H := Aside0.mk (number_Mul a0_0 a0_1 a0_2 a1_0 a1_1 a1_2 r1 r2 r3 r4 h)
  clear h
  go_enter Try.func42, Try.ntmps42
  go_wp2_with fail
  refine (H.out _).mono ?_
  rintro e w1 ⟨rfl, hb1⟩
  have HB1 := Aside0.mk (below_step (below_alloc (below_alloc (below_alloc (Below.refl w.heap.size w) _) _) _) hb1)
  obtain ⟨hc1, hf1⟩ := bcell hb1
  have hz1 : w.heap.size + 2 < w1.heap.size := by have := hb1.size; simp at this; omega
  go_wp2_with fail
  refine bodyPost_ret (v := .tuple #[.agg #[.int .i64 r1, .int .i64 r2, .string r3], .int .i64 r4]) (by simp [results, Try.results42, go_sem, hc1, hz1]) rfl ⟨rfl, ?_⟩
  repeat (first | exact HB1.out | refine below_set ?_ (by omega))

set_option maxRecDepth 100000 in
set_option maxHeartbeats 1000000 in
theorem number_Div_ok (a0_0 a0_1 : Int) (a0_2 : ByteArray) (a1_0 a1_1 : Int) (a1_2 : ByteArray) (n : Int) (w : World)
    (h : value_fit.f a0_0 a0_1 a0_2 a1_0 a1_1 a1_2 2 = some (true, false)) (hc : value_Div_1.f a0_1 a1_1 = some (n, 0)) :
    Calls Try.prog 75 #[.agg #[.int .i64 a0_0, .int .i64 a0_1, .string a0_2], .agg #[.int .i64 a1_0, .int .i64 a1_1, .string a1_2], .func (.func 79) #[] #[]] w
      fun e w' => e = .returned (.tuple #[.agg #[.int .i64 2, .int .i64 n, .string ⟨#[]⟩], .int .i64 0]) ∧ Below w.heap.size w w' := by
  have hu33 := Try.underlying33
  have H := Aside0.mk h
  have HC := Aside0.mk hc
  clear h hc
  go_enter Try.func75, Try.ntmps75
  go_wp2_with fail
  refine (value_fit.calls _ _ _ _ _ _ _ true false _ H.out).mono ?_
  rintro e w1 ⟨rfl, hb1⟩
  have HB1 := Aside0.mk (below_step (below_alloc (below_alloc (below_alloc (Below.refl w.heap.size w) _) _) _) hb1)
  obtain ⟨hc1, hf1⟩ := bcell hb1
  have hz1 : w.heap.size + 2 < w1.heap.size := by have := hb1.size; simp at this; omega
  go_wp2_with fail
  refine (value_Div_1.calls _ _ n 0 _ HC.out).mono ?_
  rintro e w2 ⟨rfl, ⟨m, rfl⟩⟩
  go_wp2_with fail
  refine (value_Int.calls n 2 n ⟨#[]⟩ _ rfl).mono ?_
  rintro e w2 ⟨rfl, hb2⟩
  have HB2 := Aside0.mk (below_step (pw_below_drewN HB1.out m) hb2)
  have hc2 : ∀ b o, b < w1.heap.size → w2.cell? ⟨b, o, none⟩ = w1.cell? ⟨b, o, none⟩ := (bcell hb2).1
  have hf2 : ∀ b o, b < w1.heap.size → w2.frozen? ⟨b, o, none⟩ = w1.frozen? ⟨b, o, none⟩ := (bcell hb2).2
  have hz2 : w.heap.size + 2 < w2.heap.size := by have := hb2.size; simp at this; omega
  clear hb2
  go_wp2_with fail
  refine bodyPost_ret (v := .tuple #[.agg #[.int .i64 2, .int .i64 n, .string ⟨#[]⟩], .int .i64 0]) (by simp [results, Try.results75, go_sem, hc2, hc1, hz1, hz2]) rfl ⟨rfl, ?_⟩
  repeat (first | exact HB2.out | refine below_set ?_ (by omega))

set_option maxRecDepth 100000 in
set_option maxHeartbeats 1000000 in
theorem number_Div_err (a0_0 a0_1 : Int) (a0_2 : ByteArray) (a1_0 a1_1 : Int) (a1_2 : ByteArray) (n r : Int) (w : World)
    (h : value_fit.f a0_0 a0_1 a0_2 a1_0 a1_1 a1_2 2 = some (true, false)) (hc : value_Div_1.f a0_1 a1_1 = some (n, r)) (hr : (r == 0) = false) (hr2 : (r != 0) = true) :
    Calls Try.prog 75 #[.agg #[.int .i64 a0_0, .int .i64 a0_1, .string a0_2], .agg #[.int .i64 a1_0, .int .i64 a1_1, .string a1_2], .func (.func 79) #[] #[]] w
      fun e w' => e = .returned (.tuple #[.agg #[.int .i64 0, .int .i64 0, .string ⟨#[]⟩], .int .i64 r]) ∧ Below w.heap.size w w' := by
  have hu33 := Try.underlying33
  have H := Aside0.mk h
  have HC := Aside0.mk hc
  clear h hc
  go_enter Try.func75, Try.ntmps75
  go_wp2_with fail
  refine (value_fit.calls _ _ _ _ _ _ _ true false _ H.out).mono ?_
  rintro e w1 ⟨rfl, hb1⟩
  have HB1 := Aside0.mk (below_step (below_alloc (below_alloc (below_alloc (Below.refl w.heap.size w) _) _) _) hb1)
  obtain ⟨hc1, hf1⟩ := bcell hb1
  have hz1 : w.heap.size + 2 < w1.heap.size := by have := hb1.size; simp at this; omega
  go_wp2_with fail
  refine (value_Div_1.calls _ _ n r _ HC.out).mono ?_
  rintro e w2 ⟨rfl, ⟨m, rfl⟩⟩
  go_wp2_with fail
  refine (value_Null.calls 0 0 ⟨#[]⟩ _ rfl).mono ?_
  rintro e w2 ⟨rfl, hb2⟩
  have HB2 := Aside0.mk (below_step (pw_below_drewN HB1.out m) hb2)
  have hc2 : ∀ b o, b < w1.heap.size → w2.cell? ⟨b, o, none⟩ = w1.cell? ⟨b, o, none⟩ := (bcell hb2).1
  have hf2 : ∀ b o, b < w1.heap.size → w2.frozen? ⟨b, o, none⟩ = w1.frozen? ⟨b, o, none⟩ := (bcell hb2).2
  have hz2 : w.heap.size + 2 < w2.heap.size := by have := hb2.size; simp at this; omega
  clear hb2
  go_wp2_with fail
  refine bodyPost_ret (v := .tuple #[.agg #[.int .i64 0, .int .i64 0, .string ⟨#[]⟩], .int .i64 r]) (by simp [results, Try.results75, go_sem, hc2, hc1, hz1, hz2]) rfl ⟨rfl, ?_⟩
  repeat (first | exact HB2.out | refine below_set ?_ (by omega))

theorem number_Div (a0_0 a0_1 : Int) (a0_2 : ByteArray) (a1_0 a1_1 : Int) (a1_2 : ByteArray) (r1 r2 : Int) (r3 : ByteArray) (r4 : Int) (h : reckon value_Div_1.f a0_0 a0_1 a1_0 a1_1 = some (r1, r2, r3, r4)) (w : World) :
    Calls Try.prog 75 #[.agg #[.int .i64 a0_0, .int .i64 a0_1, .string a0_2], .agg #[.int .i64 a1_0, .int .i64 a1_1, .string a1_2], .func (.func 79) #[] #[]] w
      fun e w' => e = .returned (.tuple #[.agg #[.int .i64 r1, .int .i64 r2, .string r3], .int .i64 r4]) ∧ Below w.heap.size w w' := by
  rcases reckon_cases h with ⟨⟨b, hf⟩, rfl, rfl, rfl, rfl⟩ | ⟨hf, rfl, rfl, rfl, rfl⟩ | ⟨hf, hc, rfl, rfl, rfl⟩ | ⟨hf, n, hc, hr, rfl, rfl, rfl⟩
  · exact number_bad 79 _ _ _ _ _ _ b w (hf a0_2 a1_2)
  · exact number_null 79 _ _ _ _ _ _ w (hf a0_2 a1_2)
  · exact number_Div_ok _ _ _ _ _ _ r2 w (hf a0_2 a1_2) hc
  · exact number_Div_err _ _ _ _ _ _ n r4 w (hf a0_2 a1_2) hc (beq_eq_false_iff_ne.2 hr) (bne_iff_ne.2 hr)

def value_Div.f (a0_0 a0_1 : Int) (a0_2 : ByteArray) (a1_0 a1_1 : Int) (a1_2 : ByteArray) : Option (Int × Int × ByteArray × Int) := reckon value_Div_1.f a0_0 a0_1 a1_0 a1_1

set_option maxRecDepth 100000 in
set_option maxHeartbeats 1000000 in
theorem value_Div.calls (a0_0 : Int) (a0_1 : Int) (a0_2 : ByteArray) (a1_0 : Int) (a1_1 : Int) (a1_2 : ByteArray) (r1 : Int) (r2 : Int) (r3 : ByteArray) (r4 : Int) (w : World) (h : value_Div.f a0_0 a0_1 a0_2 a1_0 a1_1 a1_2 = some (r1, r2, r3, r4)) :
    Calls Try.prog 43 #[.agg #[.int .i64 a0_0, .int .i64 a0_1, .string a0_2], .agg #[.int .i64 a1_0, .int .i64 a1_1, .string a1_2]] w fun e w' => e = .returned (.tuple #[.agg #[.int .i64 r1, .int .i64 r2, .string r3], .int .i64 r4]) ∧ Below w.heap.size w w' := by
  have hu33 := Try.underlying33
  have H := Aside0.mk (number_Div a0_0 a0_1 a0_2 a1_0 a1_1 a1_2 r1 r2 r3 r4 h)
  clear h
  go_enter Try.func43, Try.ntmps43
  go_wp2_with fail
  refine (H.out _).mono ?_
  rintro e w1 ⟨rfl, hb1⟩
  have HB1 := Aside0.mk (below_step (below_alloc (below_alloc (below_alloc (Below.refl w.heap.size w) _) _) _) hb1)
  obtain ⟨hc1, hf1⟩ := bcell hb1
  have hz1 : w.heap.size + 2 < w1.heap.size := by have := hb1.size; simp at this; omega
  go_wp2_with fail
  refine bodyPost_ret (v := .tuple #[.agg #[.int .i64 r1, .int .i64 r2, .string r3], .int .i64 r4]) (by simp [results, Try.results43, go_sem, hc1, hz1]) rfl ⟨rfl, ?_⟩
  repeat (first | exact HB1.out | refine below_set ?_ (by omega))

set_option maxRecDepth 100000 in
set_option maxHeartbeats 1000000 in
theorem number_Add_ok (a0_0 a0_1 : Int) (a0_2 : ByteArray) (a1_0 a1_1 : Int) (a1_2 : ByteArray) (n : Int) (w : World)
    (h : value_fit.f a0_0 a0_1 a0_2 a1_0 a1_1 a1_2 2 = some (true, false)) (hc : value_Add_1.f a0_1 a1_1 = some (n, 0)) :
    Calls Try.prog 75 #[.agg #[.int .i64 a0_0, .int .i64 a0_1, .string a0_2], .agg #[.int .i64 a1_0, .int .i64 a1_1, .string a1_2], .func (.func 80) #[] #[]] w
      fun e w' => e = .returned (.tuple #[.agg #[.int .i64 2, .int .i64 n, .string ⟨#[]⟩], .int .i64 0]) ∧ Below w.heap.size w w' := by
  have hu33 := Try.underlying33
  have H := Aside0.mk h
  have HC := Aside0.mk hc
  clear h hc
  go_enter Try.func75, Try.ntmps75
  go_wp2_with fail
  refine (value_fit.calls _ _ _ _ _ _ _ true false _ H.out).mono ?_
  rintro e w1 ⟨rfl, hb1⟩
  have HB1 := Aside0.mk (below_step (below_alloc (below_alloc (below_alloc (Below.refl w.heap.size w) _) _) _) hb1)
  obtain ⟨hc1, hf1⟩ := bcell hb1
  have hz1 : w.heap.size + 2 < w1.heap.size := by have := hb1.size; simp at this; omega
  go_wp2_with fail
  refine (value_Add_1.calls _ _ n 0 _ HC.out).mono ?_
  rintro e w2 ⟨rfl, ⟨m, rfl⟩⟩
  go_wp2_with fail
  refine (value_Int.calls n 2 n ⟨#[]⟩ _ rfl).mono ?_
  rintro e w2 ⟨rfl, hb2⟩
  have HB2 := Aside0.mk (below_step (pw_below_drewN HB1.out m) hb2)
  have hc2 : ∀ b o, b < w1.heap.size → w2.cell? ⟨b, o, none⟩ = w1.cell? ⟨b, o, none⟩ := (bcell hb2).1
  have hf2 : ∀ b o, b < w1.heap.size → w2.frozen? ⟨b, o, none⟩ = w1.frozen? ⟨b, o, none⟩ := (bcell hb2).2
  have hz2 : w.heap.size + 2 < w2.heap.size := by have := hb2.size; simp at this; omega
  clear hb2
  go_wp2_with fail
  refine bodyPost_ret (v := .tuple #[.agg #[.int .i64 2, .int .i64 n, .string ⟨#[]⟩], .int .i64 0]) (by simp [results, Try.results75, go_sem, hc2, hc1, hz1, hz2]) rfl ⟨rfl, ?_⟩
  repeat (first | exact HB2.out | refine below_set ?_ (by omega))

set_option maxRecDepth 100000 in
set_option maxHeartbeats 1000000 in
theorem number_Add_err (a0_0 a0_1 : Int) (a0_2 : ByteArray) (a1_0 a1_1 : Int) (a1_2 : ByteArray) (n r : Int) (w : World)
    (h : value_fit.f a0_0 a0_1 a0_2 a1_0 a1_1 a1_2 2 = some (true, false)) (hc : value_Add_1.f a0_1 a1_1 = some (n, r)) (hr : (r == 0) = false) (hr2 : (r != 0) = true) :
    Calls Try.prog 75 #[.agg #[.int .i64 a0_0, .int .i64 a0_1, .string a0_2], .agg #[.int .i64 a1_0, .int .i64 a1_1, .string a1_2], .func (.func 80) #[] #[]] w
      fun e w' => e = .returned (.tuple #[.agg #[.int .i64 0, .int .i64 0, .string ⟨#[]⟩], .int .i64 r]) ∧ Below w.heap.size w w' := by
  have hu33 := Try.underlying33
  have H := Aside0.mk h
  have HC := Aside0.mk hc
  clear h hc
  go_enter Try.func75, Try.ntmps75
  go_wp2_with fail
  refine (value_fit.calls _ _ _ _ _ _ _ true false _ H.out).mono ?_
  rintro e w1 ⟨rfl, hb1⟩
  have HB1 := Aside0.mk (below_step (below_alloc (below_alloc (below_alloc (Below.refl w.heap.size w) _) _) _) hb1)
  obtain ⟨hc1, hf1⟩ := bcell hb1
  have hz1 : w.heap.size + 2 < w1.heap.size := by have := hb1.size; simp at this; omega
  go_wp2_with fail
  refine (value_Add_1.calls _ _ n r _ HC.out).mono ?_
  rintro e w2 ⟨rfl, ⟨m, rfl⟩⟩
  go_wp2_with fail
  refine (value_Null.calls 0 0 ⟨#[]⟩ _ rfl).mono ?_
  rintro e w2 ⟨rfl, hb2⟩
  have HB2 := Aside0.mk (below_step (pw_below_drewN HB1.out m) hb2)
  have hc2 : ∀ b o, b < w1.heap.size → w2.cell? ⟨b, o, none⟩ = w1.cell? ⟨b, o, none⟩ := (bcell hb2).1
  have hf2 : ∀ b o, b < w1.heap.size → w2.frozen? ⟨b, o, none⟩ = w1.frozen? ⟨b, o, none⟩ := (bcell hb2).2
  have hz2 : w.heap.size + 2 < w2.heap.size := by have := hb2.size; simp at this; omega
  clear hb2
  go_wp2_with fail
  refine bodyPost_ret (v := .tuple #[.agg #[.int .i64 0, .int .i64 0, .string ⟨#[]⟩], .int .i64 r]) (by simp [results, Try.results75, go_sem, hc2, hc1, hz1, hz2]) rfl ⟨rfl, ?_⟩
  repeat (first | exact HB2.out | refine below_set ?_ (by omega))

theorem number_Add (a0_0 a0_1 : Int) (a0_2 : ByteArray) (a1_0 a1_1 : Int) (a1_2 : ByteArray) (r1 r2 : Int) (r3 : ByteArray) (r4 : Int) (h : reckon value_Add_1.f a0_0 a0_1 a1_0 a1_1 = some (r1, r2, r3, r4)) (w : World) :
    Calls Try.prog 75 #[.agg #[.int .i64 a0_0, .int .i64 a0_1, .string a0_2], .agg #[.int .i64 a1_0, .int .i64 a1_1, .string a1_2], .func (.func 80) #[] #[]] w
      fun e w' => e = .returned (.tuple #[.agg #[.int .i64 r1, .int .i64 r2, .string r3], .int .i64 r4]) ∧ Below w.heap.size w w' := by
  rcases reckon_cases h with ⟨⟨b, hf⟩, rfl, rfl, rfl, rfl⟩ | ⟨hf, rfl, rfl, rfl, rfl⟩ | ⟨hf, hc, rfl, rfl, rfl⟩ | ⟨hf, n, hc, hr, rfl, rfl, rfl⟩
  · exact number_bad 80 _ _ _ _ _ _ b w (hf a0_2 a1_2)
  · exact number_null 80 _ _ _ _ _ _ w (hf a0_2 a1_2)
  · exact number_Add_ok _ _ _ _ _ _ r2 w (hf a0_2 a1_2) hc
  · exact number_Add_err _ _ _ _ _ _ n r4 w (hf a0_2 a1_2) hc (beq_eq_false_iff_ne.2 hr) (bne_iff_ne.2 hr)

def value_Add.f (a0_0 a0_1 : Int) (a0_2 : ByteArray) (a1_0 a1_1 : Int) (a1_2 : ByteArray) : Option (Int × Int × ByteArray × Int) := reckon value_Add_1.f a0_0 a0_1 a1_0 a1_1

set_option maxRecDepth 100000 in
set_option maxHeartbeats 1000000 in
theorem value_Add.calls (a0_0 : Int) (a0_1 : Int) (a0_2 : ByteArray) (a1_0 : Int) (a1_1 : Int) (a1_2 : ByteArray) (r1 : Int) (r2 : Int) (r3 : ByteArray) (r4 : Int) (w : World) (h : value_Add.f a0_0 a0_1 a0_2 a1_0 a1_1 a1_2 = some (r1, r2, r3, r4)) :
    Calls Try.prog 44 #[.agg #[.int .i64 a0_0, .int .i64 a0_1, .string a0_2], .agg #[.int .i64 a1_0, .int .i64 a1_1, .string a1_2]] w fun e w' => e = .returned (.tuple #[.agg #[.int .i64 r1, .int .i64 r2, .string r3], .int .i64 r4]) ∧ Below w.heap.size w w' := by
  have hu33 := Try.underlying33
  have H := Aside0.mk (number_Add a0_0 a0_1 a0_2 a1_0 a1_1 a1_2 r1 r2 r3 r4 h)
  clear h
  go_enter Try.func44, Try.ntmps44
  go_wp2_with fail
  refine (H.out _).mono ?_
  rintro e w1 ⟨rfl, hb1⟩
  have HB1 := Aside0.mk (below_step (below_alloc (below_alloc (below_alloc (Below.refl w.heap.size w) _) _) _) hb1)
  obtain ⟨hc1, hf1⟩ := bcell hb1
  have hz1 : w.heap.size + 2 < w1.heap.size := by have := hb1.size; simp at this; omega
  go_wp2_with fail
  refine bodyPost_ret (v := .tuple #[.agg #[.int .i64 r1, .int .i64 r2, .string r3], .int .i64 r4]) (by simp [results, Try.results44, go_sem, hc1, hz1]) rfl ⟨rfl, ?_⟩
  repeat (first | exact HB1.out | refine below_set ?_ (by omega))

set_option maxRecDepth 100000 in
set_option maxHeartbeats 1000000 in
theorem number_Sub_ok (a0_0 a0_1 : Int) (a0_2 : ByteArray) (a1_0 a1_1 : Int) (a1_2 : ByteArray) (n : Int) (w : World)
    (h : value_fit.f a0_0 a0_1 a0_2 a1_0 a1_1 a1_2 2 = some (true, false)) (hc : value_Sub_1.f a0_1 a1_1 = some (n, 0)) :
    Calls Try.prog 75 #[.agg #[.int .i64 a0_0, .int .i64 a0_1, .string a0_2], .agg #[.int .i64 a1_0, .int .i64 a1_1, .string a1_2], .func (.func 81) #[] #[]] w
      fun e w' => e = .returned (.tuple #[.agg #[.int .i64 2, .int .i64 n, .string ⟨#[]⟩], .int .i64 0]) ∧ Below w.heap.size w w' := by
  have hu33 := Try.underlying33
  have H := Aside0.mk h
  have HC := Aside0.mk hc
  clear h hc
  go_enter Try.func75, Try.ntmps75
  go_wp2_with fail
  refine (value_fit.calls _ _ _ _ _ _ _ true false _ H.out).mono ?_
  rintro e w1 ⟨rfl, hb1⟩
  have HB1 := Aside0.mk (below_step (below_alloc (below_alloc (below_alloc (Below.refl w.heap.size w) _) _) _) hb1)
  obtain ⟨hc1, hf1⟩ := bcell hb1
  have hz1 : w.heap.size + 2 < w1.heap.size := by have := hb1.size; simp at this; omega
  go_wp2_with fail
  refine (value_Sub_1.calls _ _ n 0 _ HC.out).mono ?_
  rintro e w2 ⟨rfl, ⟨m, rfl⟩⟩
  go_wp2_with fail
  refine (value_Int.calls n 2 n ⟨#[]⟩ _ rfl).mono ?_
  rintro e w2 ⟨rfl, hb2⟩
  have HB2 := Aside0.mk (below_step (pw_below_drewN HB1.out m) hb2)
  have hc2 : ∀ b o, b < w1.heap.size → w2.cell? ⟨b, o, none⟩ = w1.cell? ⟨b, o, none⟩ := (bcell hb2).1
  have hf2 : ∀ b o, b < w1.heap.size → w2.frozen? ⟨b, o, none⟩ = w1.frozen? ⟨b, o, none⟩ := (bcell hb2).2
  have hz2 : w.heap.size + 2 < w2.heap.size := by have := hb2.size; simp at this; omega
  clear hb2
  go_wp2_with fail
  refine bodyPost_ret (v := .tuple #[.agg #[.int .i64 2, .int .i64 n, .string ⟨#[]⟩], .int .i64 0]) (by simp [results, Try.results75, go_sem, hc2, hc1, hz1, hz2]) rfl ⟨rfl, ?_⟩
  repeat (first | exact HB2.out | refine below_set ?_ (by omega))

set_option maxRecDepth 100000 in
set_option maxHeartbeats 1000000 in
theorem number_Sub_err (a0_0 a0_1 : Int) (a0_2 : ByteArray) (a1_0 a1_1 : Int) (a1_2 : ByteArray) (n r : Int) (w : World)
    (h : value_fit.f a0_0 a0_1 a0_2 a1_0 a1_1 a1_2 2 = some (true, false)) (hc : value_Sub_1.f a0_1 a1_1 = some (n, r)) (hr : (r == 0) = false) (hr2 : (r != 0) = true) :
    Calls Try.prog 75 #[.agg #[.int .i64 a0_0, .int .i64 a0_1, .string a0_2], .agg #[.int .i64 a1_0, .int .i64 a1_1, .string a1_2], .func (.func 81) #[] #[]] w
      fun e w' => e = .returned (.tuple #[.agg #[.int .i64 0, .int .i64 0, .string ⟨#[]⟩], .int .i64 r]) ∧ Below w.heap.size w w' := by
  have hu33 := Try.underlying33
  have H := Aside0.mk h
  have HC := Aside0.mk hc
  clear h hc
  go_enter Try.func75, Try.ntmps75
  go_wp2_with fail
  refine (value_fit.calls _ _ _ _ _ _ _ true false _ H.out).mono ?_
  rintro e w1 ⟨rfl, hb1⟩
  have HB1 := Aside0.mk (below_step (below_alloc (below_alloc (below_alloc (Below.refl w.heap.size w) _) _) _) hb1)
  obtain ⟨hc1, hf1⟩ := bcell hb1
  have hz1 : w.heap.size + 2 < w1.heap.size := by have := hb1.size; simp at this; omega
  go_wp2_with fail
  refine (value_Sub_1.calls _ _ n r _ HC.out).mono ?_
  rintro e w2 ⟨rfl, ⟨m, rfl⟩⟩
  go_wp2_with fail
  refine (value_Null.calls 0 0 ⟨#[]⟩ _ rfl).mono ?_
  rintro e w2 ⟨rfl, hb2⟩
  have HB2 := Aside0.mk (below_step (pw_below_drewN HB1.out m) hb2)
  have hc2 : ∀ b o, b < w1.heap.size → w2.cell? ⟨b, o, none⟩ = w1.cell? ⟨b, o, none⟩ := (bcell hb2).1
  have hf2 : ∀ b o, b < w1.heap.size → w2.frozen? ⟨b, o, none⟩ = w1.frozen? ⟨b, o, none⟩ := (bcell hb2).2
  have hz2 : w.heap.size + 2 < w2.heap.size := by have := hb2.size; simp at this; omega
  clear hb2
  go_wp2_with fail
  refine bodyPost_ret (v := .tuple #[.agg #[.int .i64 0, .int .i64 0, .string ⟨#[]⟩], .int .i64 r]) (by simp [results, Try.results75, go_sem, hc2, hc1, hz1, hz2]) rfl ⟨rfl, ?_⟩
  repeat (first | exact HB2.out | refine below_set ?_ (by omega))

theorem number_Sub (a0_0 a0_1 : Int) (a0_2 : ByteArray) (a1_0 a1_1 : Int) (a1_2 : ByteArray) (r1 r2 : Int) (r3 : ByteArray) (r4 : Int) (h : reckon value_Sub_1.f a0_0 a0_1 a1_0 a1_1 = some (r1, r2, r3, r4)) (w : World) :
    Calls Try.prog 75 #[.agg #[.int .i64 a0_0, .int .i64 a0_1, .string a0_2], .agg #[.int .i64 a1_0, .int .i64 a1_1, .string a1_2], .func (.func 81) #[] #[]] w
      fun e w' => e = .returned (.tuple #[.agg #[.int .i64 r1, .int .i64 r2, .string r3], .int .i64 r4]) ∧ Below w.heap.size w w' := by
  rcases reckon_cases h with ⟨⟨b, hf⟩, rfl, rfl, rfl, rfl⟩ | ⟨hf, rfl, rfl, rfl, rfl⟩ | ⟨hf, hc, rfl, rfl, rfl⟩ | ⟨hf, n, hc, hr, rfl, rfl, rfl⟩
  · exact number_bad 81 _ _ _ _ _ _ b w (hf a0_2 a1_2)
  · exact number_null 81 _ _ _ _ _ _ w (hf a0_2 a1_2)
  · exact number_Sub_ok _ _ _ _ _ _ r2 w (hf a0_2 a1_2) hc
  · exact number_Sub_err _ _ _ _ _ _ n r4 w (hf a0_2 a1_2) hc (beq_eq_false_iff_ne.2 hr) (bne_iff_ne.2 hr)

def value_Sub.f (a0_0 a0_1 : Int) (a0_2 : ByteArray) (a1_0 a1_1 : Int) (a1_2 : ByteArray) : Option (Int × Int × ByteArray × Int) := reckon value_Sub_1.f a0_0 a0_1 a1_0 a1_1

set_option maxRecDepth 100000 in
set_option maxHeartbeats 1000000 in
theorem value_Sub.calls (a0_0 : Int) (a0_1 : Int) (a0_2 : ByteArray) (a1_0 : Int) (a1_1 : Int) (a1_2 : ByteArray) (r1 : Int) (r2 : Int) (r3 : ByteArray) (r4 : Int) (w : World) (h : value_Sub.f a0_0 a0_1 a0_2 a1_0 a1_1 a1_2 = some (r1, r2, r3, r4)) :
    Calls Try.prog 45 #[.agg #[.int .i64 a0_0, .int .i64 a0_1, .string a0_2], .agg #[.int .i64 a1_0, .int .i64 a1_1, .string a1_2]] w fun e w' => e = .returned (.tuple #[.agg #[.int .i64 r1, .int .i64 r2, .string r3], .int .i64 r4]) ∧ Below w.heap.size w w' := by
  have hu33 := Try.underlying33
  have H := Aside0.mk (number_Sub a0_0 a0_1 a0_2 a1_0 a1_1 a1_2 r1 r2 r3 r4 h)
  clear h
  go_enter Try.func45, Try.ntmps45
  go_wp2_with fail
  refine (H.out _).mono ?_
  rintro e w1 ⟨rfl, hb1⟩
  have HB1 := Aside0.mk (below_step (below_alloc (below_alloc (below_alloc (Below.refl w.heap.size w) _) _) _) hb1)
  obtain ⟨hc1, hf1⟩ := bcell hb1
  have hz1 : w.heap.size + 2 < w1.heap.size := by have := hb1.size; simp at this; omega
  go_wp2_with fail
  refine bodyPost_ret (v := .tuple #[.agg #[.int .i64 r1, .int .i64 r2, .string r3], .int .i64 r4]) (by simp [results, Try.results45, go_sem, hc1, hz1]) rfl ⟨rfl, ?_⟩
  repeat (first | exact HB1.out | refine below_set ?_ (by omega))

set_option maxRecDepth 100000 in
set_option maxHeartbeats 1000000 in
theorem number_Mod_ok (a0_0 a0_1 : Int) (a0_2 : ByteArray) (a1_0 a1_1 : Int) (a1_2 : ByteArray) (n : Int) (w : World)
    (h : value_fit.f a0_0 a0_1 a0_2 a1_0 a1_1 a1_2 2 = some (true, false)) (hc : value_Mod_1.f a0_1 a1_1 = some (n, 0)) :
    Calls Try.prog 75 #[.agg #[.int .i64 a0_0, .int .i64 a0_1, .string a0_2], .agg #[.int .i64 a1_0, .int .i64 a1_1, .string a1_2], .func (.func 82) #[] #[]] w
      fun e w' => e = .returned (.tuple #[.agg #[.int .i64 2, .int .i64 n, .string ⟨#[]⟩], .int .i64 0]) ∧ Below w.heap.size w w' := by
  have hu33 := Try.underlying33
  have H := Aside0.mk h
  have HC := Aside0.mk hc
  clear h hc
  go_enter Try.func75, Try.ntmps75
  go_wp2_with fail
  refine (value_fit.calls _ _ _ _ _ _ _ true false _ H.out).mono ?_
  rintro e w1 ⟨rfl, hb1⟩
  have HB1 := Aside0.mk (below_step (below_alloc (below_alloc (below_alloc (Below.refl w.heap.size w) _) _) _) hb1)
  obtain ⟨hc1, hf1⟩ := bcell hb1
  have hz1 : w.heap.size + 2 < w1.heap.size := by have := hb1.size; simp at this; omega
  go_wp2_with fail
  refine (value_Mod_1.calls _ _ n 0 _ HC.out).mono ?_
  rintro e w2 ⟨rfl, ⟨m, rfl⟩⟩
  go_wp2_with fail
  refine (value_Int.calls n 2 n ⟨#[]⟩ _ rfl).mono ?_
  rintro e w2 ⟨rfl, hb2⟩
  have HB2 := Aside0.mk (below_step (pw_below_drewN HB1.out m) hb2)
  have hc2 : ∀ b o, b < w1.heap.size → w2.cell? ⟨b, o, none⟩ = w1.cell? ⟨b, o, none⟩ := (bcell hb2).1
  have hf2 : ∀ b o, b < w1.heap.size → w2.frozen? ⟨b, o, none⟩ = w1.frozen? ⟨b, o, none⟩ := (bcell hb2).2
  have hz2 : w.heap.size + 2 < w2.heap.size := by have := hb2.size; simp at this; omega
  clear hb2
  go_wp2_with fail
  refine bodyPost_ret (v := .tuple #[.agg #[.int .i64 2, .int .i64 n, .string ⟨#[]⟩], .int .i64 0]) (by simp [results, Try.results75, go_sem, hc2, hc1, hz1, hz2]) rfl ⟨rfl, ?_⟩
  repeat (first | exact HB2.out | refine below_set ?_ (by omega))

set_option maxRecDepth 100000 in
set_option maxHeartbeats 1000000 in
theorem number_Mod_err (a0_0 a0_1 : Int) (a0_2 : ByteArray) (a1_0 a1_1 : Int) (a1_2 : ByteArray) (n r : Int) (w : World)
    (h : value_fit.f a0_0 a0_1 a0_2 a1_0 a1_1 a1_2 2 = some (true, false)) (hc : value_Mod_1.f a0_1 a1_1 = some (n, r)) (hr : (r == 0) = false) (hr2 : (r != 0) = true) :
    Calls Try.prog 75 #[.agg #[.int .i64 a0_0, .int .i64 a0_1, .string a0_2], .agg #[.int .i64 a1_0, .int .i64 a1_1, .string a1_2], .func (.func 82) #[] #[]] w
      fun e w' => e = .returned (.tuple #[.agg #[.int .i64 0, .int .i64 0, .string ⟨#[]⟩], .int .i64 r]) ∧ Below w.heap.size w w' := by
  have hu33 := Try.underlying33
  have H := Aside0.mk h
  have HC := Aside0.mk hc
  clear h hc
  go_enter Try.func75, Try.ntmps75
  go_wp2_with fail
  refine (value_fit.calls _ _ _ _ _ _ _ true false _ H.out).mono ?_
  rintro e w1 ⟨rfl, hb1⟩
  have HB1 := Aside0.mk (below_step (below_alloc (below_alloc (below_alloc (Below.refl w.heap.size w) _) _) _) hb1)
  obtain ⟨hc1, hf1⟩ := bcell hb1
  have hz1 : w.heap.size + 2 < w1.heap.size := by have := hb1.size; simp at this; omega
  go_wp2_with fail
  refine (value_Mod_1.calls _ _ n r _ HC.out).mono ?_
  rintro e w2 ⟨rfl, ⟨m, rfl⟩⟩
  go_wp2_with fail
  refine (value_Null.calls 0 0 ⟨#[]⟩ _ rfl).mono ?_
  rintro e w2 ⟨rfl, hb2⟩
  have HB2 := Aside0.mk (below_step (pw_below_drewN HB1.out m) hb2)
  have hc2 : ∀ b o, b < w1.heap.size → w2.cell? ⟨b, o, none⟩ = w1.cell? ⟨b, o, none⟩ := (bcell hb2).1
  have hf2 : ∀ b o, b < w1.heap.size → w2.frozen? ⟨b, o, none⟩ = w1.frozen? ⟨b, o, none⟩ := (bcell hb2).2
  have hz2 : w.heap.size + 2 < w2.heap.size := by have := hb2.size; simp at this; omega
  clear hb2
  go_wp2_with fail
  refine bodyPost_ret (v := .tuple #[.agg #[.int .i64 0, .int .i64 0, .string ⟨#[]⟩], .int .i64 r]) (by simp [results, Try.results75, go_sem, hc2, hc1, hz1, hz2]) rfl ⟨rfl, ?_⟩
  repeat (first | exact HB2.out | refine below_set ?_ (by omega))

theorem number_Mod (a0_0 a0_1 : Int) (a0_2 : ByteArray) (a1_0 a1_1 : Int) (a1_2 : ByteArray) (r1 r2 : Int) (r3 : ByteArray) (r4 : Int) (h : reckon value_Mod_1.f a0_0 a0_1 a1_0 a1_1 = some (r1, r2, r3, r4)) (w : World) :
    Calls Try.prog 75 #[.agg #[.int .i64 a0_0, .int .i64 a0_1, .string a0_2], .agg #[.int .i64 a1_0, .int .i64 a1_1, .string a1_2], .func (.func 82) #[] #[]] w
      fun e w' => e = .returned (.tuple #[.agg #[.int .i64 r1, .int .i64 r2, .string r3], .int .i64 r4]) ∧ Below w.heap.size w w' := by
  rcases reckon_cases h with ⟨⟨b, hf⟩, rfl, rfl, rfl, rfl⟩ | ⟨hf, rfl, rfl, rfl, rfl⟩ | ⟨hf, hc, rfl, rfl, rfl⟩ | ⟨hf, n, hc, hr, rfl, rfl, rfl⟩
  · exact number_bad 82 _ _ _ _ _ _ b w (hf a0_2 a1_2)
  · exact number_null 82 _ _ _ _ _ _ w (hf a0_2 a1_2)
  · exact number_Mod_ok _ _ _ _ _ _ r2 w (hf a0_2 a1_2) hc
  · exact number_Mod_err _ _ _ _ _ _ n r4 w (hf a0_2 a1_2) hc (beq_eq_false_iff_ne.2 hr) (bne_iff_ne.2 hr)

def value_Mod.f (a0_0 a0_1 : Int) (a0_2 : ByteArray) (a1_0 a1_1 : Int) (a1_2 : ByteArray) : Option (Int × Int × ByteArray × Int) := reckon value_Mod_1.f a0_0 a0_1 a1_0 a1_1

set_option maxRecDepth 100000 in
set_option maxHeartbeats 1000000 in
theorem value_Mod.calls (a0_0 : Int) (a0_1 : Int) (a0_2 : ByteArray) (a1_0 : Int) (a1_1 : Int) (a1_2 : ByteArray) (r1 : Int) (r2 : Int) (r3 : ByteArray) (r4 : Int) (w : World) (h : value_Mod.f a0_0 a0_1 a0_2 a1_0 a1_1 a1_2 = some (r1, r2, r3, r4)) :
    Calls Try.prog 46 #[.agg #[.int .i64 a0_0, .int .i64 a0_1, .string a0_2], .agg #[.int .i64 a1_0, .int .i64 a1_1, .string a1_2]] w fun e w' => e = .returned (.tuple #[.agg #[.int .i64 r1, .int .i64 r2, .string r3], .int .i64 r4]) ∧ Below w.heap.size w w' := by
  have hu33 := Try.underlying33
  have H := Aside0.mk (number_Mod a0_0 a0_1 a0_2 a1_0 a1_1 a1_2 r1 r2 r3 r4 h)
  clear h
  go_enter Try.func46, Try.ntmps46
  go_wp2_with fail
  refine (H.out _).mono ?_
  rintro e w1 ⟨rfl, hb1⟩
  have HB1 := Aside0.mk (below_step (below_alloc (below_alloc (below_alloc (Below.refl w.heap.size w) _) _) _) hb1)
  obtain ⟨hc1, hf1⟩ := bcell hb1
  have hz1 : w.heap.size + 2 < w1.heap.size := by have := hb1.size; simp at this; omega
  go_wp2_with fail
  refine bodyPost_ret (v := .tuple #[.agg #[.int .i64 r1, .int .i64 r2, .string r3], .int .i64 r4]) (by simp [results, Try.results46, go_sem, hc1, hz1]) rfl ⟨rfl, ?_⟩
  repeat (first | exact HB1.out | refine below_set ?_ (by omega))

end Go.Proofs.Ythghflgmeepnlaa.Pa
