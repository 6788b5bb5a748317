/- The row of RowsJoins: for every input the law returns true, and each argument reads as it read before; out of the pure statement and the law's contract. -/
import Derived.Test.YthghflgmeepnlaaRows
import Derived.Test.YthghflgmeepnlaaZJ4
import Derived.Test.YthghflgmeepnlaaZJ2
import Derived.WalkKit
import Derived.ProofKit
import Derived.OpenShut
import Derived.ShutString
import Derived.ChangeOld
import Derived.Below
import Derived.SizedLaws
import Derived.Lib.SmallJoins
namespace Go.Proofs.Ythghflgmeepnlaa.rowsJoins
open Go.ChangeShapes Go.WideShapes Go.ChangeAt Go.RowKit
open Go.ChangeMaps (open_string shut_string)
set_option linter.unusedVariables false
theorem own : ownKnob Try.prog.godebug = none := by kernel_rfl
theorem laidOut : laidOutB Try.prog = true := by kernel_rfl
set_option maxRecDepth 100000 in
theorem lifted (os : Os) (started : os.Started) (H : Type) (enc : TypeId × Value → H) :
    ReturnsInHanded {} Try.checked os 17 .any (Rows.rowsJoinsSpec.pre6 enc Try.prog Try.f17 Rows.rowsJoinsRow.domain false) (Rows.rowsJoinsSpec.post enc Try.prog Try.f17 false true false false) := by
  refine returnsInHanded_of_change_sized (C := Try.checked) own started (by kernel_rfl) Try.func17
    (ChangeSpec.witness6 (enc := enc) (C := Try.checked) false ⟨#[], #[.slice none 0 0, .slice none 0 0, .int .i64 0, .int .i64 0], []⟩ 8 (by kernel_rfl) (by kernel_rfl) (by kernel_rfl) (by kernel_rfl)) ?_
  intro W base args ds gs before hval0 hW hcnd hsz0 _
  have hsz : (DataW.weightsEach Try.prog (Try.f17.params.toList ++ Rows.rowsJoinsSpec.plain.varTypes Try.prog) (ds ++ gs)).all (· ≤ reachBytes) = true := hsz0
  have hval : ∀ (j : Nat) t v, Try.f17.params[j]? = some t → args[j]? = some v → Value.okWide Try.prog W .any base t v := hval0
  have hW' := hW
  obtain ⟨p, q, hA0, hV, rfl, hfz, hnd⟩ := hW
  have hA : DataW.TrodAll enc Try.prog W 0 (fun _ => true) true Try.f17.params.toList args.toList ds p := hA0
  rw [Try.params17] at hA hval hsz
  obtain ⟨v0, vs0, d0, ds0, p0, q0, hargs, rfl, rfl, h0, r0⟩ := trodAll_cons hA
  obtain ⟨v1, vs1, d1, ds1, p1, q1, rfl, rfl, rfl, h1, r1⟩ := trodAll_cons r0
  obtain ⟨v2, vs2, d2, ds2, p2, q2, rfl, rfl, rfl, h2, r2⟩ := trodAll_cons r1
  obtain ⟨v3, vs3, d3, ds3, p3, q3, rfl, rfl, rfl, h3, r3⟩ := trodAll_cons r2
  obtain ⟨rfl, rfl, rfl⟩ := trodAll_nil r3
  obtain rfl : args = #[v0, v1, v2, v3] := by cases args; simp_all
  obtain ⟨rfl, rfl⟩ := trodVars_none hV
  obtain ⟨a0, len0, cap0, rfl⟩ := okWide_slice Try.underlying58 (hval 0 58 v0 rfl rfl)
  have k0 := h0
  have lt0 : ∀ x ∈ p0, x.block < W.heap.size := by obtain ⟨m, hm⟩ := k0; exact DataW.trod_lt m _ _ _ hm
  obtain ⟨l0, a0', c0, hcs0, hl0, hr0, g0⟩ : ∃ l a c, [Value.slice a0 len0 cap0] = [Value.slice a l.length c] ∧ l.length ≤ c ∧ Go.Proofs.YthghflgmeepnlaaW.PrintWords.Kd.C (Go.Proofs.YthghflgmeepnlaaW.PrintWords.Kd.slice 33 Pa.k33) W a l.length l ∧ (l.length ≤ maxLen ∧ ∀ x ∈ l, x.length ≤ maxLen ∧ ∀ y ∈ x, Pa.okv y) := by
    obtain ⟨fuel, hf⟩ := h0
    obtain ⟨l, ⟨a, c, h1, h2, h3⟩, h4⟩ := (Pa.opens_slice Try.underlying58 (by kernel_rfl) (by decide) (Pa.opens_slice Try.underlying22 (by kernel_rfl) (by decide) Pa.opens_33)) fuel _ _ hf
    exact ⟨l, a, c, h1, h2, h3, h4⟩
  simp only [List.cons.injEq, and_true, Value.slice.injEq] at hcs0
  obtain ⟨rfl, rfl, rfl⟩ := hcs0
  obtain ⟨a1, len1, cap1, rfl⟩ := okWide_slice Try.underlying58 (hval 1 58 v1 rfl rfl)
  have k1 := h1
  have lt1 : ∀ x ∈ p1, x.block < W.heap.size := by obtain ⟨m, hm⟩ := k1; exact DataW.trod_lt m _ _ _ hm
  obtain ⟨l1, a1', c1, hcs1, hl1, hr1, g1⟩ : ∃ l a c, [Value.slice a1 len1 cap1] = [Value.slice a l.length c] ∧ l.length ≤ c ∧ Go.Proofs.YthghflgmeepnlaaW.PrintWords.Kd.C (Go.Proofs.YthghflgmeepnlaaW.PrintWords.Kd.slice 33 Pa.k33) W a l.length l ∧ (l.length ≤ maxLen ∧ ∀ x ∈ l, x.length ≤ maxLen ∧ ∀ y ∈ x, Pa.okv y) := by
    obtain ⟨fuel, hf⟩ := h1
    obtain ⟨l, ⟨a, c, h1, h2, h3⟩, h4⟩ := (Pa.opens_slice Try.underlying58 (by kernel_rfl) (by decide) (Pa.opens_slice Try.underlying22 (by kernel_rfl) (by decide) Pa.opens_33)) fuel _ _ hf
    exact ⟨l, a, c, h1, h2, h3, h4⟩
  simp only [List.cons.injEq, and_true, Value.slice.injEq] at hcs1
  obtain ⟨rfl, rfl, rfl⟩ := hcs1
  obtain ⟨a2, rfl, rfl, rfl, w2⟩ := open_int Try.underlying3 (hval 2 3 v2 rfl rfl) h2
  obtain ⟨a3, rfl, rfl, rfl, w3⟩ := open_int Try.underlying3 (hval 3 3 v3 rfl rfl) h3
  have hp := Pure.RowsJoins l0 g0.1 g0.2 l1 g1.1 g1.2 a2 w2 a3 w3
  clear hA0 hval0 hsz0 hsz
  refine (Pa.RowsJoins.calls _ _ l0 _ _ l1 a2 a3 W hr0 hl0 hr1 hl1 hp).mono fun e W' ⟨he, bel0⟩ => ?_
  have bel : Below W.heap.size W W' := by first | exact bel0 | exact Go.Proofs.YthghflgmeepnlaaW.PrintWords.Drawn0.below bel0
  subst he
  exact ⟨_, rfl, _, _, _, [], _, [], hW', trodAll_mk1 (shut_bool Try.underlying4 _), (trodAll_cons_mk (Below.trod laidOut (by kernel_rfl) (of_decide_eq_true (by kernel_rfl)) k0 bel lt0) (trodAll_cons_mk (Below.trod laidOut (by kernel_rfl) (of_decide_eq_true (by kernel_rfl)) k1 bel lt1) (trodAll_cons_mk (shut_int Try.underlying3 w2) (trodAll_cons_mk (shut_int Try.underlying3 w3) trodAll_mk0)))), rfl, bel.frame _, fun h => by cases h⟩
theorem over : Rows.rowsJoinsRow.holds Try.pinned (OpenSpec.ofChange Rows.rowsJoinsSpec) :=
  OpenClaim.holds_of_wide 17 Try.f17 rfl rfl rfl rfl rfl rfl rfl ⟨rfl, rfl, rfl, rfl, rfl⟩ rfl rfl rfl rfl rfl (by kernel_rfl) Try.func17 (by kernel_rfl)
    (of_decide_eq_true (by kernel_rfl)) (by unfold Func.isWrapper; first | (rw [if_pos (by decide +kernel)]; kernel_rfl) | (rw [if_neg (by decide +kernel)]; exact ⟨rfl, rfl⟩))
    (fun os started H enc _ => lifted os started H enc)
theorem proved : Rows.RowsJoinsSaid := over
#print axioms proved
end Go.Proofs.Ythghflgmeepnlaa.rowsJoins
namespace Go.Proofs.Ythghflgmeepnlaa
theorem rowsJoins_holds : Rows.RowsJoinsSaid := rowsJoins.proved
end Go.Proofs.Ythghflgmeepnlaa
