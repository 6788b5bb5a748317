/- The row of RowsOrder: for every input the law returns true, and each argument reads as it read before; out of the pure statement and the law's contract. -/
import Derived.Test.YthghflgmeepnlaaRows
import Derived.Test.YthghflgmeepnlaaZO4
import Derived.Test.YthghflgmeepnlaaZO2
import Derived.WalkKit
import Derived.ProofKit
import Derived.OpenShut
import Derived.ShutString
import Derived.ChangeOld
import Derived.Below
import Derived.SizedLaws
import Derived.Lib.SmallJoins
namespace Go.Proofs.Ythghflgmeepnlaa.rowsOrder
open Go.ChangeShapes Go.WideShapes Go.ChangeAt Go.RowKit
open Go.ChangeMaps (open_string shut_string)
set_option linter.unusedVariables false
theorem own : ownKnob Try.prog.godebug = none := by kernel_rfl
theorem laidOut : laidOutB Try.prog = true := by kernel_rfl
set_option maxRecDepth 100000 in
theorem lifted (os : Os) (started : os.Started) (H : Type) (enc : TypeId × Value → H) :
    ReturnsInHanded {} Try.checked os 14 .any (Rows.rowsOrderSpec.pre6 enc Try.prog Try.f14 Rows.rowsOrderRow.domain false) (Rows.rowsOrderSpec.post enc Try.prog Try.f14 false true false false) := by
  refine returnsInHanded_of_change_sized (C := Try.checked) own started (by kernel_rfl) Try.func14
    (ChangeSpec.witness6 (enc := enc) (C := Try.checked) false ⟨#[], #[.slice none 0 0], []⟩ 8 (by kernel_rfl) (by kernel_rfl) (by kernel_rfl) (by kernel_rfl)) ?_
  intro W base args ds gs before hval0 hW hcnd hsz0 _
  have hsz : (DataW.weightsEach Try.prog (Try.f14.params.toList ++ Rows.rowsOrderSpec.plain.varTypes Try.prog) (ds ++ gs)).all (· ≤ reachBytes) = true := hsz0
  have hval : ∀ (j : Nat) t v, Try.f14.params[j]? = some t → args[j]? = some v → Value.okWide Try.prog W .any base t v := hval0
  have hW' := hW
  obtain ⟨p, q, hA0, hV, rfl, hfz, hnd⟩ := hW
  have hA : DataW.TrodAll enc Try.prog W 0 (fun _ => true) true Try.f14.params.toList args.toList ds p := hA0
  rw [Try.params14] at hA hval hsz
  obtain ⟨v0, vs0, d0, ds0, p0, q0, hargs, rfl, rfl, h0, r0⟩ := trodAll_cons hA
  obtain ⟨rfl, rfl, rfl⟩ := trodAll_nil r0
  obtain rfl : args = #[v0] := by cases args; simp_all
  obtain ⟨rfl, rfl⟩ := trodVars_none hV
  obtain ⟨a0, len0, cap0, rfl⟩ := okWide_slice Try.underlying58 (hval 0 58 v0 rfl rfl)
  have k0 := h0
  have lt0 : ∀ x ∈ p0, x.block < W.heap.size := by obtain ⟨m, hm⟩ := k0; exact DataW.trod_lt m _ _ _ hm
  obtain ⟨l0, a0', c0, hcs0, hl0, hr0, g0⟩ : ∃ l a c, [Value.slice a0 len0 cap0] = [Value.slice a l.length c] ∧ l.length ≤ c ∧ Go.Proofs.YthghflgmeepnlaaW.PrintWords.Kd.C (Go.Proofs.YthghflgmeepnlaaW.PrintWords.Kd.slice 33 Pa.k33) W a l.length l ∧ (l.length ≤ maxLen ∧ ∀ x ∈ l, x.length ≤ maxLen ∧ ∀ y ∈ x, Pa.okv y) := by
    obtain ⟨fuel, hf⟩ := h0
    obtain ⟨l, ⟨a, c, h1, h2, h3⟩, h4⟩ := (Pa.opens_slice Try.underlying58 (by kernel_rfl) (by decide) (Pa.opens_slice Try.underlying22 (by kernel_rfl) (by decide) Pa.opens_33)) fuel _ _ hf
    exact ⟨l, a, c, h1, h2, h3, h4⟩
  simp only [List.cons.injEq, and_true, Value.slice.injEq] at hcs0
  obtain ⟨rfl, rfl, rfl⟩ := hcs0
  have hp := Pure.RowsOrder l0 g0.1 g0.2
  clear hA0 hval0 hsz0 hsz
  refine (Pa.RowsOrder.calls _ _ l0 W hr0 hl0 hp).mono fun e W' ⟨he, bel0⟩ => ?_
  have bel : Below W.heap.size W W' := by first | exact bel0 | exact Go.Proofs.YthghflgmeepnlaaW.PrintWords.Drawn0.below bel0
  subst he
  exact ⟨_, rfl, _, _, _, [], _, [], hW', trodAll_mk1 (shut_bool Try.underlying4 _), (trodAll_cons_mk (Below.trod laidOut (by kernel_rfl) (of_decide_eq_true (by kernel_rfl)) k0 bel lt0) trodAll_mk0), rfl, bel.frame _, fun h => by cases h⟩
theorem over : Rows.rowsOrderRow.holds Try.pinned (OpenSpec.ofChange Rows.rowsOrderSpec) :=
  OpenClaim.holds_of_wide 14 Try.f14 rfl rfl rfl rfl rfl rfl rfl ⟨rfl, rfl, rfl, rfl, rfl⟩ rfl rfl rfl rfl rfl (by kernel_rfl) Try.func14 (by kernel_rfl)
    (of_decide_eq_true (by kernel_rfl)) (by unfold Func.isWrapper; first | (rw [if_pos (by decide +kernel)]; kernel_rfl) | (rw [if_neg (by decide +kernel)]; exact ⟨rfl, rfl⟩))
    (fun os started H enc _ => lifted os started H enc)
theorem proved : Rows.RowsOrderSaid := over
#print axioms proved
end Go.Proofs.Ythghflgmeepnlaa.rowsOrder
namespace Go.Proofs.Ythghflgmeepnlaa
theorem rowsOrder_holds : Rows.RowsOrderSaid := rowsOrder.proved
end Go.Proofs.Ythghflgmeepnlaa
