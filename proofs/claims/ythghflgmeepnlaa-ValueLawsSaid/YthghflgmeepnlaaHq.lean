/- cordonlaw01.ValueLaws answers true: any three values. -/
import Derived.Test.YthghflgmeepnlaaHn
import Derived.Test.YthghflgmeepnlaaHp
namespace Go.Proofs.Ythghflgmeepnlaa.Pa
open Go.RowKit Go.Proofs.YthghflgmeepnlaaW.PrintWords Go.Proofs.YthghflgmeepnlaaW.PrintLast Go.Proofs.YthghflgmeepnlaaW.PrintMore
set_option linter.unusedVariables false
set_option linter.unusedSimpArgs false

theorem right_f (x0 x1 : Int) (x2 : ByteArray) : cordonlaw01_Right.f 1 x0 x1 x2 = some (rightV ⟨x0, x1, x2⟩ == 0) := by
  unfold cordonlaw01_Right.f
  rw [right_ref 0 ⟨x0, x1, x2⟩]
  rfl
theorem no_text {s : ByteArray} (h : txt s = []) : s = ⟨#[]⟩ := by
  obtain ⟨d⟩ := s
  have : d.toList = [] := h
  have e : d = #[] := by simpa using this
  rw [e]
theorem three_of (x0 x1 : Int) (x2 : ByteArray) (h : cordonlaw01_Right.f 1 x0 x1 x2 = some true) (ht : x0 ≤ 1) : ∃ X : Option Bool, x0 = ty X ∧ x1 = nn X ∧ x2 = ⟨#[]⟩ := by
  rw [right_f] at h
  have h : rightV ⟨x0, x1, x2⟩ = 0 := by simpa using h
  unfold rightV at h
  by_cases h0 : x0 = 0
  · simp only [h0, if_true] at h
    by_cases h1 : x1 = 0 ∧ txt x2 = []
    · exact ⟨none, h0, h1.1, no_text h1.2⟩
    · rw [if_neg h1] at h; omega
  · by_cases h9 : x0 = 1
    · simp only [h9, if_true] at h
      rw [if_neg (by omega)] at h
      by_cases h1 : (x1 = 0 ∨ x1 = 1) ∧ txt x2 = []
      · rcases h1.1 with e | e
        · exact ⟨some false, h9, e, no_text h1.2⟩
        · exact ⟨some true, h9, e, no_text h1.2⟩
      · rw [if_neg h1] at h; omega
    · simp only [h0, h9, if_false] at h
      rw [if_neg (by omega), if_neg (by omega)] at h
      omega

def cordonlaw01_ValueLaws.f (a0_0 a0_1 : Int) (a0_2 : ByteArray) (a1_0 a1_1 : Int) (a1_2 : ByteArray) (a2_0 a2_1 : Int) (a2_2 : ByteArray) : Option Bool := some true
theorem cordonlaw01_ValueLaws.calls (a0_0 a0_1 : Int) (a0_2 : ByteArray) (a1_0 a1_1 : Int) (a1_2 : ByteArray) (a2_0 a2_1 : Int) (a2_2 : ByteArray) (r : Bool) (w : World) (h : cordonlaw01_ValueLaws.f a0_0 a0_1 a0_2 a1_0 a1_1 a1_2 a2_0 a2_1 a2_2 = some r) :
    Calls Try.prog 4 #[.agg #[.int .i64 a0_0, .int .i64 a0_1, .string a0_2], .agg #[.int .i64 a1_0, .int .i64 a1_1, .string a1_2], .agg #[.int .i64 a2_0, .int .i64 a2_1, .string a2_2]] w
      fun e w' => e = .returned (.bool r) ∧ Below w.heap.size w w' := by
  obtain rfl := Option.some.inj h
  have fx := right_f a0_0 a0_1 a0_2
  have fy := right_f a1_0 a1_1 a1_2
  have fz := right_f a2_0 a2_1 a2_2
  generalize (rightV ⟨a0_0, a0_1, a0_2⟩ == 0) = bx at fx
  generalize (rightV ⟨a1_0, a1_1, a1_2⟩ == 0) = b_y at fy
  generalize (rightV ⟨a2_0, a2_1, a2_2⟩ == 0) = bz at fz
  cases bx with
  | false => exact laws_bad1r _ _ _ _ _ _ _ _ _ w fx
  | true =>
    by_cases tx : 1 < a0_0
    · exact laws_bad1t _ _ _ _ _ _ _ _ _ w fx tx
    have tx : a0_0 ≤ 1 := by omega
    cases b_y with
    | false => exact laws_bad2r _ _ _ _ _ _ _ _ _ w fx tx fy
    | true =>
      by_cases tY : 1 < a1_0
      · exact laws_bad2t _ _ _ _ _ _ _ _ _ w fx tx fy tY
      have tY : a1_0 ≤ 1 := by omega
      cases bz with
      | false => exact laws_bad3r _ _ _ _ _ _ _ _ _ w fx tx fy tY fz
      | true =>
        by_cases tz : 1 < a2_0
        · exact laws_bad3t _ _ _ _ _ _ _ _ _ w fx tx fy tY fz tz
        have tz : a2_0 ≤ 1 := by omega
        obtain ⟨X, rfl, rfl, rfl⟩ := three_of _ _ _ fx tx
        obtain ⟨Y, rfl, rfl, rfl⟩ := three_of _ _ _ fy tY
        obtain ⟨Z, rfl, rfl, rfl⟩ := three_of _ _ _ fz tz
        exact laws_main X Y Z w
end Go.Proofs.Ythghflgmeepnlaa.Pa
