/- The pure statement of ValueBack: any two numbers. -/
import Derived.Test.YthghflgmeepnlaaPaL7
import Derived.Test.YthghflgmeepnlaaQd
namespace Go.Proofs.Ythghflgmeepnlaa.Pure
open Go.RowKit Go.Proofs.Ythghflgmeepnlaa.Pa Go.Proofs.YthghflgmeepnlaaW.PrintWords Go.Proofs.YthghflgmeepnlaaW.PrintLast
theorem add_yes {x y : Int} (hx : inR x) (hy : inR y) (h : -9223372036854775808 ≤ x + y ∧ x + y ≤ 9223372036854775807) : value_Add.f 2 x ⟨#[]⟩ 2 y ⟨#[]⟩ = some (2, x + y, ⟨#[]⟩, 0) := by
  unfold value_Add.f
  rw [reckon_int, add_is hx hy, addR, if_pos h]; rfl
theorem add_no {x y : Int} (hx : inR x) (hy : inR y) (h : ¬ (-9223372036854775808 ≤ x + y ∧ x + y ≤ 9223372036854775807)) : value_Add.f 2 x ⟨#[]⟩ 2 y ⟨#[]⟩ = some (0, 0, ⟨#[]⟩, 4) := by
  unfold value_Add.f
  rw [reckon_int, add_is hx hy, addR, if_neg h]; rfl
theorem sub_yes {x y : Int} (hx : inR x) (hy : inR y) (h : -9223372036854775808 ≤ x - y ∧ x - y ≤ 9223372036854775807) : value_Sub.f 2 x ⟨#[]⟩ 2 y ⟨#[]⟩ = some (2, x - y, ⟨#[]⟩, 0) := by
  unfold value_Sub.f
  rw [reckon_int, sub_is hx hy, subR, if_pos h]; rfl
theorem mulb {x y : Int} (hx : inR x) (hy : inR y) (h : -9223372036854775808 ≤ x * y ∧ x * y ≤ 9223372036854775807) : value_Mul.f 2 x ⟨#[]⟩ 2 y ⟨#[]⟩ = some (2, x * y, ⟨#[]⟩, 0) := by
  unfold value_Mul.f
  rw [reckon_int, mul_is hx hy, mulR, if_pos h]; rfl
theorem mod_yes {x y : Int} (hy : y ≠ 0) : value_Mod.f 2 x ⟨#[]⟩ 2 y ⟨#[]⟩ = some (2, Int.tmod x y, ⟨#[]⟩, 0) := by
  have e : value_Mod_1.f x y = some (Int.tmod x y, 0) := by
    unfold value_Mod_1.f
    rw [if_neg hy]
    by_cases h : y = -1
    · subst h
      rw [if_pos rfl]
      have e : (Int.tmod x (-1)).natAbs = x.natAbs % (-1 : Int).natAbs := Int.natAbs_tmod x (-1)
      rw [show (-1 : Int).natAbs = 1 from rfl, Nat.mod_one] at e
      have : Int.tmod x (-1) = 0 := by omega
      rw [this]
    · rw [if_neg h]
  unfold value_Mod.f
  rw [reckon_int, e]; rfl
theorem small_tail (k : Nat) (x y m p : Int) (hy : inR y) (hm : m.natAbs < y.natAbs) (q : Int) (hM : value_Mul.f 2 q ⟨#[]⟩ 2 y ⟨#[]⟩ = some (2, p, ⟨#[]⟩, 0)) (hA : value_Add.f 2 p ⟨#[]⟩ 2 m ⟨#[]⟩ = some (2, x, ⟨#[]⟩, 0)) :
    cordonlaw01_ValueBack.j1 (k + 1) y 0 false 2 x ⟨#[]⟩ 2 y ⟨#[]⟩ 2 q ⟨#[]⟩ 2 m ⟨#[]⟩ = some true := by
  obtain ⟨y1, y2⟩ := hy
  rw [cordonlaw01_ValueBack.j1, if_neg (by simp), if_pos rfl, hM]
  simp only [Option.bind_some]
  rw [hA]
  simp only [Option.bind_some]
  by_cases hp : y > 0
  · have w : wrap64 (-y) = -y := wrap_in ⟨by omega, by omega⟩
    rw [w, if_pos (by omega), if_pos (by omega)]
    simp [cordonlaw01_alive.f]
  · by_cases hl : y = -9223372036854775808
    · have w : wrap64 (-y) = -9223372036854775808 := by rw [hl]; unfold wrap64; omega
      rw [w, if_pos (by omega), if_neg (by omega), if_neg (by omega)]
      simp [cordonlaw01_alive.f, hl]
    · have w : wrap64 (-y) = -y := wrap_in ⟨by omega, by omega⟩
      rw [w, if_neg (by omega), if_pos (by omega), if_pos (by omega)]
      simp [cordonlaw01_alive.f]
theorem back_tail (k : Nat) (x y : Int) (hx : inR x) (hy : inR y) (s : Bool) (hs : s = false) (hy0 : y ≠ 0) :
    ((value_Div.f 2 x ⟨#[]⟩ 2 y ⟨#[]⟩).bind fun d => cordonlaw01_ValueBack.j1 (k + 1) y d.2.2.2 s 2 x ⟨#[]⟩ 2 y ⟨#[]⟩ d.1 d.2.1 d.2.2.1 2 (Int.tmod x y) ⟨#[]⟩) = some true := by
  subst hs
  have hn : (Int.tmod x y).natAbs = x.natAbs % y.natAbs := Int.natAbs_tmod x y
  have hlt : x.natAbs % y.natAbs < y.natAbs := Nat.mod_lt _ (by omega)
  have hle : x.natAbs % y.natAbs ≤ x.natAbs := Nat.mod_le _ _
  by_cases ho : x = -9223372036854775808 ∧ y = -1
  · have hd : value_Div.f 2 x ⟨#[]⟩ 2 y ⟨#[]⟩ = some (0, 0, ⟨#[]⟩, 4) := by
      unfold value_Div.f
      rw [reckon_int, value_Div_1.f, if_neg hy0, if_pos ho.1, if_pos ho.2]; rfl
    have hm : Int.tmod x y = 0 := by
      rw [ho.2] at hn ⊢
      rw [show (-1 : Int).natAbs = 1 from rfl, Nat.mod_one] at hn
      omega
    rw [hd]
    simp only [Option.bind_some]
    rw [cordonlaw01_ValueBack.j1, if_neg (by simp), if_neg (by simp), if_pos rfl, if_pos ho.2, if_pos hm]
    rfl
  · have hq := tdiv_in hx hy0 ho
    have hd : value_Div.f 2 x ⟨#[]⟩ 2 y ⟨#[]⟩ = some (2, Int.tdiv x y, ⟨#[]⟩, 0) := by
      have e2 : value_Div_1.f x y = some (Int.tdiv x y, 0) := by
        unfold value_Div_1.f
        rw [if_neg hy0, wrap_in hq]
        by_cases h1 : x = -9223372036854775808
        · rw [if_pos h1, if_neg (fun e => ho ⟨h1, e⟩)]
        · rw [if_neg h1]
      unfold value_Div.f
      rw [reckon_int, e2]; rfl
    rw [hd]
    simp only [Option.bind_some]
    have hsum : Int.tdiv x y * y + Int.tmod x y = x := by
      have := Int.mul_tdiv_add_tmod x y
      rw [Int.mul_comm] at this
      exact this
    have sgn : (0 ≤ x → 0 ≤ Int.tmod x y) ∧ (x ≤ 0 → Int.tmod x y ≤ 0) := by
      refine ⟨fun h => Int.tmod_nonneg y h, fun h => ?_⟩
      have := Int.tmod_nonneg y (show 0 ≤ -x by omega)
      rw [Int.neg_tmod] at this
      omega
    obtain ⟨x1, x2⟩ := hx
    generalize hP : Int.tdiv x y * y = P at hsum
    generalize hM : Int.tmod x y = M at *
    refine small_tail k x y M P hy (by omega) _ ?_ ?_
    · have := mulb hq hy (by rw [hP]; exact ⟨by omega, by omega⟩)
      rw [hP] at this
      exact this
    · have := add_yes (x := P) (y := M) ⟨by omega, by omega⟩ ⟨by omega, by omega⟩ ⟨by omega, by omega⟩
      rw [hsum] at this
      exact this
theorem back_j0 (k : Nat) (x y : Int) (hx : inR x) (hy : inR y) : cordonlaw01_ValueBack.j0 (k + 2) x y 2 x ⟨#[]⟩ 2 y ⟨#[]⟩ = some true := by
  rw [cordonlaw01_ValueBack.j0]
  by_cases hy0 : y = 0
  · subst hy0
    have hd : value_Div.f 2 x ⟨#[]⟩ 2 0 ⟨#[]⟩ = some (0, 0, ⟨#[]⟩, 5) := by
      unfold value_Div.f
      rw [reckon_int, value_Div_1.f, if_pos rfl]; rfl
    have hm : value_Mod.f 2 x ⟨#[]⟩ 2 0 ⟨#[]⟩ = some (0, 0, ⟨#[]⟩, 5) := by
      unfold value_Mod.f
      rw [reckon_int, value_Mod_1.f, if_pos rfl]; rfl
    rw [hd, hm]
    simp [cordonlaw01_alive.f]
  · rw [mod_yes hy0]
    have sgn : (0 ≤ x → 0 ≤ Int.tmod x y) ∧ (x ≤ 0 → Int.tmod x y ≤ 0) := by
      refine ⟨fun h => Int.tmod_nonneg y h, fun h => ?_⟩
      have := Int.tmod_nonneg y (show 0 ≤ -x by omega)
      rw [Int.neg_tmod] at this
      omega
    have T := fun s hs => back_tail k x y hx hy s hs hy0
    simp only [Option.bind_some]
    generalize Int.tmod x y = M at *
    by_cases h1 : M < 0
    · simp only [if_neg hy0, if_true, if_pos h1, if_neg (show ¬ x ≥ 0 by omega), if_neg (show ¬ M > 0 by omega)]
      exact T false rfl
    · by_cases h2 : M > 0
      · simp only [if_neg hy0, if_true, if_neg h1, if_pos h2]
        exact T (decide (x ≤ 0)) (decide_eq_false (by omega))
      · simp only [if_neg hy0, if_true, if_neg h1, if_neg h2]
        exact T false rfl
theorem ValueBack (x : Int) (wx : (Lit.int .i64 x).wf = true) (y : Int) (wy : (Lit.int .i64 y).wf = true) : ∃ k, cordonlaw01_ValueBack.f k x y = some true := by
  have hx := inR_of_wf wx
  have hy := inR_of_wf wy
  refine ⟨2, ?_⟩
  unfold cordonlaw01_ValueBack.f value_Int.f
  simp only [Option.bind_some]
  by_cases h : -9223372036854775808 ≤ x + y ∧ x + y ≤ 9223372036854775807
  · rw [add_yes hx hy h]
    simp only [Option.bind_some]
    have e : x + y - y = x := by omega
    have := sub_yes (x := x + y) (y := y) h hy (by rw [e]; exact hx)
    rw [e] at this
    rw [if_pos trivial, this]
    simp only [Option.bind_some]
    rw [if_pos trivial, if_neg (by simp)]
    exact back_j0 0 x y hx hy
  · rw [add_no hx hy h]
    simp only [Option.bind_some]
    rw [if_neg (by simp), if_pos trivial]
    exact back_j0 0 x y hx hy
end Go.Proofs.Ythghflgmeepnlaa.Pure
