/- The closures of cordonlaw01.ValueLaws: and, or, not of null, false and true; what they capture stays true. -/
import Derived.Test.YthghflgmeepnlaaHf
import Derived.Test.YthghflgmeepnlaaPax1
namespace Go.Proofs.Ythghflgmeepnlaa.Pa
open Go.RowKit Go.Proofs.YthghflgmeepnlaaW.PrintWords Go.Proofs.YthghflgmeepnlaaW.PrintLast Go.Proofs.YthghflgmeepnlaaW.PrintMore
set_option linter.unusedVariables false
set_option linter.unusedSimpArgs false

/-- A value of three: null, false, true. -/
def ty : Option Bool → Int
  | none => 0
  | some _ => 1
def nn : Option Bool → Int
  | some true => 1
  | _ => 0
def and3 : Option Bool → Option Bool → Option Bool
  | some false, _ => some false
  | _, some false => some false
  | none, _ => none
  | _, none => none
  | _, _ => some true
def or3 : Option Bool → Option Bool → Option Bool
  | some true, _ => some true
  | _, some true => some true
  | none, _ => none
  | _, none => none
  | _, _ => some false
def not3 : Option Bool → Option Bool
  | none => none
  | some b => some !b
theorem and_is (x y : Option Bool) : value_And.f 4 (ty x) (nn x) ⟨#[]⟩ (ty y) (nn y) ⟨#[]⟩ = some (ty (and3 x y), nn (and3 x y), ⟨#[]⟩, 0) := by
  rcases x with _ | _ | _ <;> rcases y with _ | _ | _ <;> simp [value_And.f, value_Bool.f, value_logic.f, value_fit.f, value_logic.j0, value_Null.f, value_True.f, ty, nn, and3]
theorem or_is (x y : Option Bool) : value_Or.f 4 (ty x) (nn x) ⟨#[]⟩ (ty y) (nn y) ⟨#[]⟩ = some (ty (or3 x y), nn (or3 x y), ⟨#[]⟩, 0) := by
  rcases x with _ | _ | _ <;> rcases y with _ | _ | _ <;> simp [value_Or.f, value_Bool.f, value_logic.f, value_fit.f, value_logic.j0, value_Null.f, value_True.f, ty, nn, or3]
theorem not_is (x : Option Bool) : value_Not.f (ty x) (nn x) ⟨#[]⟩ = some (ty (not3 x), nn (not3 x), ⟨#[]⟩, 0) := by
  rcases x with _ | _ | _ <;> simp [value_Not.f, value_Bool.f, value_Null.f, value_True.f, ty, nn, not3]

theorem same_block {w W : World} {B : Nat} (hb : Below w.heap.size w W) (hB : w.heap[B]? = some (.cells #[.bool true] 4 (0, 0))) : Below w.heap.size w (W.setCell ⟨B, 0, none⟩ (.bool true)) := by
  have hlt : B < w.heap.size := blk_lt hB
  have hW : W.heap[B]? = some (.cells #[.bool true] 4 (0, 0)) := (hb.block B hlt).trans hB
  refine ⟨hb.os, hb.tape, hb.output, ?_, fun i hi => ?_⟩
  · have := hb.size
    simpa using this
  · by_cases e : i = B
    · subst e
      rw [hB]
      exact blk_put hW 0 (.bool true) rfl
    · exact (Below.heap_setCell W ⟨B, 0, none⟩ (.bool true) i e).trans (hb.block i hi)

set_option maxRecDepth 100000 in
set_option maxHeartbeats 1000000 in
theorem and_call (x y : Option Bool) (B : Nat) (w : World) (hB : w.heap[B]? = some (.cells #[.bool true] 4 (0, 0))) :
    Calls Try.prog 26 #[.agg #[.int .i64 (ty x), .int .i64 (nn x), .string ⟨#[]⟩], .agg #[.int .i64 (ty y), .int .i64 (nn y), .string ⟨#[]⟩], .pointer (some ⟨B, 0, none⟩)] w
      fun e w' => e = .returned (.agg #[.int .i64 (ty (and3 x y)), .int .i64 (nn (and3 x y)), .string ⟨#[]⟩]) ∧ Below w.heap.size w w' := by
  have hu33 := Try.underlying33
  have A := Aside0.mk (and_is x y)
  have HB := Aside0.mk hB
  have hc : w.cell? ⟨B, 0, none⟩ = some (.bool true) := (blk_cell hB 0).trans rfl
  have hlt := blk_lt hB
  have hne : w.heap.size ≠ B := Nat.ne_of_gt hlt
  clear hB
  go_enter Try.func26, Try.ntmps26
  go_wp2_with fail
  refine (value_And.calls 4 _ _ _ _ _ _ _ _ _ _ _ A.out).mono ?_
  rintro e w1 ⟨rfl, hb1⟩
  have HB1 := Aside0.mk (below_step (below_alloc (below_alloc (below_alloc (Below.refl w.heap.size w) _) _) _) hb1)
  have hc1 : w1.cell? ⟨B, 0, none⟩ = some (.bool true) := pw_cell_below HB1.out hc
  have hlt1 : B < w1.heap.size := World.block_lt_of_cell? _ _ hc1
  have hne1 : w1.heap.size ≠ B := Nat.ne_of_gt hlt1
  have fr1 : w1.frozen? ⟨B, 0, none⟩ = false := blk_frozen ((HB1.out.block B hlt).trans HB.out) 0
  obtain ⟨hcq, hfq⟩ := bcell hb1
  have hz1 : w.heap.size + 2 < w1.heap.size := by have := hb1.size; simp at this; omega
  go_wp2_with fail
  refine bodyPost_ret (v := .agg #[.int .i64 (ty (and3 x y)), .int .i64 (nn (and3 x y)), .string ⟨#[]⟩]) (by simp [results, Try.results26, go_sem, hc1, hz1, hcq]) rfl ⟨rfl, ?_⟩
  repeat (first | exact HB1.out | refine below_set ?_ (by omega) | apply below_alloc | refine same_block ?_ HB.out)

set_option maxRecDepth 100000 in
set_option maxHeartbeats 1000000 in
theorem or_call (x y : Option Bool) (B : Nat) (w : World) (hB : w.heap[B]? = some (.cells #[.bool true] 4 (0, 0))) :
    Calls Try.prog 28 #[.agg #[.int .i64 (ty x), .int .i64 (nn x), .string ⟨#[]⟩], .agg #[.int .i64 (ty y), .int .i64 (nn y), .string ⟨#[]⟩], .pointer (some ⟨B, 0, none⟩)] w
      fun e w' => e = .returned (.agg #[.int .i64 (ty (or3 x y)), .int .i64 (nn (or3 x y)), .string ⟨#[]⟩]) ∧ Below w.heap.size w w' := by
  have hu33 := Try.underlying33
  have A := Aside0.mk (or_is x y)
  have HB := Aside0.mk hB
  have hc : w.cell? ⟨B, 0, none⟩ = some (.bool true) := (blk_cell hB 0).trans rfl
  have hlt := blk_lt hB
  have hne : w.heap.size ≠ B := Nat.ne_of_gt hlt
  clear hB
  go_enter Try.func28, Try.ntmps28
  go_wp2_with fail
  refine (value_Or.calls 4 _ _ _ _ _ _ _ _ _ _ _ A.out).mono ?_
  rintro e w1 ⟨rfl, hb1⟩
  have HB1 := Aside0.mk (below_step (below_alloc (below_alloc (below_alloc (Below.refl w.heap.size w) _) _) _) hb1)
  have hc1 : w1.cell? ⟨B, 0, none⟩ = some (.bool true) := pw_cell_below HB1.out hc
  have hlt1 : B < w1.heap.size := World.block_lt_of_cell? _ _ hc1
  have hne1 : w1.heap.size ≠ B := Nat.ne_of_gt hlt1
  have fr1 : w1.frozen? ⟨B, 0, none⟩ = false := blk_frozen ((HB1.out.block B hlt).trans HB.out) 0
  obtain ⟨hcq, hfq⟩ := bcell hb1
  have hz1 : w.heap.size + 2 < w1.heap.size := by have := hb1.size; simp at this; omega
  go_wp2_with fail
  refine bodyPost_ret (v := .agg #[.int .i64 (ty (or3 x y)), .int .i64 (nn (or3 x y)), .string ⟨#[]⟩]) (by simp [results, Try.results28, go_sem, hc1, hz1, hcq]) rfl ⟨rfl, ?_⟩
  repeat (first | exact HB1.out | refine below_set ?_ (by omega) | apply below_alloc | refine same_block ?_ HB.out)

set_option maxRecDepth 100000 in
set_option maxHeartbeats 1000000 in
theorem not_call (x : Option Bool) (B : Nat) (w : World) (hB : w.heap[B]? = some (.cells #[.bool true] 4 (0, 0))) :
    Calls Try.prog 30 #[.agg #[.int .i64 (ty x), .int .i64 (nn x), .string ⟨#[]⟩], .pointer (some ⟨B, 0, none⟩)] w
      fun e w' => e = .returned (.agg #[.int .i64 (ty (not3 x)), .int .i64 (nn (not3 x)), .string ⟨#[]⟩]) ∧ Below w.heap.size w w' := by
  have hu33 := Try.underlying33
  have A := Aside0.mk (not_is x)
  have HB := Aside0.mk hB
  have hc : w.cell? ⟨B, 0, none⟩ = some (.bool true) := (blk_cell hB 0).trans rfl
  have hlt := blk_lt hB
  have hne : w.heap.size ≠ B := Nat.ne_of_gt hlt
  clear hB
  go_enter Try.func30, Try.ntmps30
  go_wp2_with fail
  refine (value_Not.calls _ _ _ _ _ _ _ _ A.out).mono ?_
  rintro e w1 ⟨rfl, hb1⟩
  have HB1 := Aside0.mk (below_step (below_alloc (below_alloc (Below.refl w.heap.size w) _) _) hb1)
  have hc1 : w1.cell? ⟨B, 0, none⟩ = some (.bool true) := pw_cell_below HB1.out hc
  have hlt1 : B < w1.heap.size := World.block_lt_of_cell? _ _ hc1
  have hne1 : w1.heap.size ≠ B := Nat.ne_of_gt hlt1
  have fr1 : w1.frozen? ⟨B, 0, none⟩ = false := blk_frozen ((HB1.out.block B hlt).trans HB.out) 0
  obtain ⟨hcq, hfq⟩ := bcell hb1
  have hz1 : w.heap.size + 1 < w1.heap.size := by have := hb1.size; simp at this; omega
  go_wp2_with fail
  refine bodyPost_ret (v := .agg #[.int .i64 (ty (not3 x)), .int .i64 (nn (not3 x)), .string ⟨#[]⟩]) (by simp [results, Try.results30, go_sem, hc1, hz1, hcq]) rfl ⟨rfl, ?_⟩
  repeat (first | exact HB1.out | refine below_set ?_ (by omega) | apply below_alloc | refine same_block ?_ HB.out)

end Go.Proofs.Ythghflgmeepnlaa.Pa
