/- cordonlaw01.ValueLaws answers true where a value is not null, false or true. -/
import Derived.Test.YthghflgmeepnlaaHm
import Derived.Test.YthghflgmeepnlaaQb
import Derived.Test.YthghflgmeepnlaaPaG1bb
namespace Go.Proofs.Ythghflgmeepnlaa.Pa
open Go.RowKit Go.Proofs.YthghflgmeepnlaaW.PrintWords Go.Proofs.YthghflgmeepnlaaW.PrintLast Go.Proofs.YthghflgmeepnlaaW.PrintMore
set_option linter.unusedVariables false
set_option linter.unusedSimpArgs false

set_option maxRecDepth 100000 in
set_option maxHeartbeats 4000000 in
theorem laws_bad1r (x0 x1 : Int) (x2 : ByteArray) (y0 y1 : Int) (y2 : ByteArray) (z0 z1 : Int) (z2 : ByteArray) (w : World) (hx : cordonlaw01_Right.f 1 x0 x1 x2 = some false) :
    Calls Try.prog 4 #[.agg #[.int .i64 x0, .int .i64 x1, .string x2], .agg #[.int .i64 y0, .int .i64 y1, .string y2], .agg #[.int .i64 z0, .int .i64 z1, .string z2]] w
      fun e w' => e = .returned (.bool true) ∧ Below w.heap.size w w' := by
  have hu33 := Try.underlying33
  have X := Aside0.mk hx
  clear hx
  go_enter Try.func4, Try.ntmps4
  go_wp2_with fail
  refine wp_loop_rounds 4 ?_
  rw [rounds_succ]
  go_wp2_with fail
  refine (cordonlaw01_Right.calls 1 _ _ _ false _ X.out).mono ?_
  rintro e w1 ⟨rfl, hb⟩
  have HB1 := Aside0.mk (below_step (by repeat (first | exact Below.refl w.heap.size w | apply below_alloc) : Below w.heap.size w _) hb)
  obtain ⟨hc1, hf1⟩ := bcell hb
  have hz1 : w.heap.size + 4 < w1.heap.size := by have := hb.size; simp at this; omega
  have v0 : w1.cell? ⟨(w.heap.size + 1 + 1 + 1 + 1), 0, none⟩ = some (.int .i64 x0) := (hc1 (w.heap.size + 1 + 1 + 1 + 1) 0 (by simp <;> omega)).trans (by simp [go_sem])
  clear hb hc1 hf1
  go_wp2_with fail
  refine (cordonlaw01_alive.calls true _ rfl).mono ?_
  rintro e w' ⟨rfl, hb⟩
  have HB := Aside0.mk (below_step HB1.out hb)
  clear hb
  go_wp2_with fail
  go_ret
  exact ⟨rfl, HB.out⟩

set_option maxRecDepth 100000 in
set_option maxHeartbeats 4000000 in
theorem laws_bad1t (x0 x1 : Int) (x2 : ByteArray) (y0 y1 : Int) (y2 : ByteArray) (z0 z1 : Int) (z2 : ByteArray) (w : World) (hx : cordonlaw01_Right.f 1 x0 x1 x2 = some true) (tx : 1 < x0) :
    Calls Try.prog 4 #[.agg #[.int .i64 x0, .int .i64 x1, .string x2], .agg #[.int .i64 y0, .int .i64 y1, .string y2], .agg #[.int .i64 z0, .int .i64 z1, .string z2]] w
      fun e w' => e = .returned (.bool true) ∧ Below w.heap.size w w' := by
  have hu33 := Try.underlying33
  have X := Aside0.mk hx
  clear hx
  have dx : decide (1 < x0) = true := decide_eq_true tx
  clear tx
  go_enter Try.func4, Try.ntmps4
  go_wp2_with fail
  refine wp_loop_rounds 4 ?_
  rw [rounds_succ]
  go_wp2_with fail
  refine (cordonlaw01_Right.calls 1 _ _ _ true _ X.out).mono ?_
  rintro e w1 ⟨rfl, hb⟩
  have HB1 := Aside0.mk (below_step (by repeat (first | exact Below.refl w.heap.size w | apply below_alloc) : Below w.heap.size w _) hb)
  obtain ⟨hc1, hf1⟩ := bcell hb
  have hz1 : w.heap.size + 4 < w1.heap.size := by have := hb.size; simp at this; omega
  have v0 : w1.cell? ⟨(w.heap.size + 1 + 1 + 1 + 1), 0, none⟩ = some (.int .i64 x0) := (hc1 (w.heap.size + 1 + 1 + 1 + 1) 0 (by simp <;> omega)).trans (by simp [go_sem])
  clear hb hc1 hf1
  go_wp2_with fail
  refine (cordonlaw01_alive.calls true _ rfl).mono ?_
  rintro e w' ⟨rfl, hb⟩
  have HB := Aside0.mk (below_step HB1.out hb)
  clear hb
  go_wp2_with fail
  go_ret
  exact ⟨rfl, HB.out⟩

set_option maxRecDepth 100000 in
set_option maxHeartbeats 4000000 in
theorem laws_bad2r (x0 x1 : Int) (x2 : ByteArray) (y0 y1 : Int) (y2 : ByteArray) (z0 z1 : Int) (z2 : ByteArray) (w : World) (hx : cordonlaw01_Right.f 1 x0 x1 x2 = some true) (tx : x0 ≤ 1) (hy : cordonlaw01_Right.f 1 y0 y1 y2 = some false) :
    Calls Try.prog 4 #[.agg #[.int .i64 x0, .int .i64 x1, .string x2], .agg #[.int .i64 y0, .int .i64 y1, .string y2], .agg #[.int .i64 z0, .int .i64 z1, .string z2]] w
      fun e w' => e = .returned (.bool true) ∧ Below w.heap.size w w' := by
  have hu33 := Try.underlying33
  have X := Aside0.mk hx
  clear hx
  have dx : decide (1 < x0) = false := decide_eq_false (by omega)
  clear tx
  have Y := Aside0.mk hy
  clear hy
  go_enter Try.func4, Try.ntmps4
  go_wp2_with fail
  refine wp_loop_rounds 4 ?_
  rw [rounds_succ]
  go_wp2_with fail
  refine (cordonlaw01_Right.calls 1 _ _ _ true _ X.out).mono ?_
  rintro e w1 ⟨rfl, hb⟩
  have HB1 := Aside0.mk (below_step (by repeat (first | exact Below.refl w.heap.size w | apply below_alloc) : Below w.heap.size w _) hb)
  obtain ⟨hc1, hf1⟩ := bcell hb
  have hz1 : w.heap.size + 4 < w1.heap.size := by have := hb.size; simp at this; omega
  have a3 : w1.cell? ⟨(w.heap.size + 1 + 1 + 1), 3, none⟩ = some (.int .i64 y0) := (hc1 (w.heap.size + 1 + 1 + 1) 3 (by simp <;> omega)).trans (by simp [go_sem])
  have a4 : w1.cell? ⟨(w.heap.size + 1 + 1 + 1), 4, none⟩ = some (.int .i64 y1) := (hc1 (w.heap.size + 1 + 1 + 1) 4 (by simp <;> omega)).trans (by simp [go_sem])
  have a5 : w1.cell? ⟨(w.heap.size + 1 + 1 + 1), 5, none⟩ = some (.string y2) := (hc1 (w.heap.size + 1 + 1 + 1) 5 (by simp <;> omega)).trans (by simp [go_sem])
  have a6 : w1.cell? ⟨(w.heap.size + 1 + 1 + 1), 6, none⟩ = some (.int .i64 z0) := (hc1 (w.heap.size + 1 + 1 + 1) 6 (by simp <;> omega)).trans (by simp [go_sem])
  have a7 : w1.cell? ⟨(w.heap.size + 1 + 1 + 1), 7, none⟩ = some (.int .i64 z1) := (hc1 (w.heap.size + 1 + 1 + 1) 7 (by simp <;> omega)).trans (by simp [go_sem])
  have a8 : w1.cell? ⟨(w.heap.size + 1 + 1 + 1), 8, none⟩ = some (.string z2) := (hc1 (w.heap.size + 1 + 1 + 1) 8 (by simp <;> omega)).trans (by simp [go_sem])
  have v0 : w1.cell? ⟨(w.heap.size + 1 + 1 + 1 + 1), 0, none⟩ = some (.int .i64 x0) := (hc1 (w.heap.size + 1 + 1 + 1 + 1) 0 (by simp <;> omega)).trans (by simp [go_sem])
  clear hb hc1 hf1
  go_wp2_with fail
  clear v0
  rw [rounds_succ]
  go_wp2_with fail
  refine (cordonlaw01_Right.calls 1 _ _ _ false _ Y.out).mono ?_
  rintro e w2 ⟨rfl, hb⟩
  have v0 : w2.cell? ⟨w1.heap.size, 0, none⟩ = some (.int .i64 y0) := ((bcell hb).1 w1.heap.size 0 (by simp)).trans (by simp [go_sem])
  have hb := below_step (by repeat (first | exact Below.refl w1.heap.size w1 | refine below_set ?_ (by omega) | apply below_alloc) : Below w1.heap.size w1 _) hb
  have HB2 := Aside0.mk (below_step HB1.out hb)
  obtain ⟨hc, hf⟩ := bcell hb
  have hz2 : w.heap.size + 4 < w2.heap.size := by have := hb.size; omega
  clear hb hc hf
  go_wp2_with fail
  refine (cordonlaw01_alive.calls true _ rfl).mono ?_
  rintro e w' ⟨rfl, hb⟩
  have HB := Aside0.mk (below_step HB2.out hb)
  clear hb
  go_wp2_with fail
  go_ret
  exact ⟨rfl, HB.out⟩

set_option maxRecDepth 100000 in
set_option maxHeartbeats 4000000 in
theorem laws_bad2t (x0 x1 : Int) (x2 : ByteArray) (y0 y1 : Int) (y2 : ByteArray) (z0 z1 : Int) (z2 : ByteArray) (w : World) (hx : cordonlaw01_Right.f 1 x0 x1 x2 = some true) (tx : x0 ≤ 1) (hy : cordonlaw01_Right.f 1 y0 y1 y2 = some true) (ty : 1 < y0) :
    Calls Try.prog 4 #[.agg #[.int .i64 x0, .int .i64 x1, .string x2], .agg #[.int .i64 y0, .int .i64 y1, .string y2], .agg #[.int .i64 z0, .int .i64 z1, .string z2]] w
      fun e w' => e = .returned (.bool true) ∧ Below w.heap.size w w' := by
  have hu33 := Try.underlying33
  have X := Aside0.mk hx
  clear hx
  have dx : decide (1 < x0) = false := decide_eq_false (by omega)
  clear tx
  have Y := Aside0.mk hy
  clear hy
  have dy : decide (1 < y0) = true := decide_eq_true ty
  clear ty
  go_enter Try.func4, Try.ntmps4
  go_wp2_with fail
  refine wp_loop_rounds 4 ?_
  rw [rounds_succ]
  go_wp2_with fail
  refine (cordonlaw01_Right.calls 1 _ _ _ true _ X.out).mono ?_
  rintro e w1 ⟨rfl, hb⟩
  have HB1 := Aside0.mk (below_step (by repeat (first | exact Below.refl w.heap.size w | apply below_alloc) : Below w.heap.size w _) hb)
  obtain ⟨hc1, hf1⟩ := bcell hb
  have hz1 : w.heap.size + 4 < w1.heap.size := by have := hb.size; simp at this; omega
  have a3 : w1.cell? ⟨(w.heap.size + 1 + 1 + 1), 3, none⟩ = some (.int .i64 y0) := (hc1 (w.heap.size + 1 + 1 + 1) 3 (by simp <;> omega)).trans (by simp [go_sem])
  have a4 : w1.cell? ⟨(w.heap.size + 1 + 1 + 1), 4, none⟩ = some (.int .i64 y1) := (hc1 (w.heap.size + 1 + 1 + 1) 4 (by simp <;> omega)).trans (by simp [go_sem])
  have a5 : w1.cell? ⟨(w.heap.size + 1 + 1 + 1), 5, none⟩ = some (.string y2) := (hc1 (w.heap.size + 1 + 1 + 1) 5 (by simp <;> omega)).trans (by simp [go_sem])
  have a6 : w1.cell? ⟨(w.heap.size + 1 + 1 + 1), 6, none⟩ = some (.int .i64 z0) := (hc1 (w.heap.size + 1 + 1 + 1) 6 (by simp <;> omega)).trans (by simp [go_sem])
  have a7 : w1.cell? ⟨(w.heap.size + 1 + 1 + 1), 7, none⟩ = some (.int .i64 z1) := (hc1 (w.heap.size + 1 + 1 + 1) 7 (by simp <;> omega)).trans (by simp [go_sem])
  have a8 : w1.cell? ⟨(w.heap.size + 1 + 1 + 1), 8, none⟩ = some (.string z2) := (hc1 (w.heap.size + 1 + 1 + 1) 8 (by simp <;> omega)).trans (by simp [go_sem])
  have v0 : w1.cell? ⟨(w.heap.size + 1 + 1 + 1 + 1), 0, none⟩ = some (.int .i64 x0) := (hc1 (w.heap.size + 1 + 1 + 1 + 1) 0 (by simp <;> omega)).trans (by simp [go_sem])
  clear hb hc1 hf1
  go_wp2_with fail
  clear v0
  rw [rounds_succ]
  go_wp2_with fail
  refine (cordonlaw01_Right.calls 1 _ _ _ true _ Y.out).mono ?_
  rintro e w2 ⟨rfl, hb⟩
  have v0 : w2.cell? ⟨w1.heap.size, 0, none⟩ = some (.int .i64 y0) := ((bcell hb).1 w1.heap.size 0 (by simp)).trans (by simp [go_sem])
  have hb := below_step (by repeat (first | exact Below.refl w1.heap.size w1 | refine below_set ?_ (by omega) | apply below_alloc) : Below w1.heap.size w1 _) hb
  have HB2 := Aside0.mk (below_step HB1.out hb)
  obtain ⟨hc, hf⟩ := bcell hb
  have hz2 : w.heap.size + 4 < w2.heap.size := by have := hb.size; omega
  clear hb hc hf
  go_wp2_with fail
  refine (cordonlaw01_alive.calls true _ rfl).mono ?_
  rintro e w' ⟨rfl, hb⟩
  have HB := Aside0.mk (below_step HB2.out hb)
  clear hb
  go_wp2_with fail
  go_ret
  exact ⟨rfl, HB.out⟩

set_option maxRecDepth 100000 in
set_option maxHeartbeats 4000000 in
theorem laws_bad3r (x0 x1 : Int) (x2 : ByteArray) (y0 y1 : Int) (y2 : ByteArray) (z0 z1 : Int) (z2 : ByteArray) (w : World) (hx : cordonlaw01_Right.f 1 x0 x1 x2 = some true) (tx : x0 ≤ 1) (hy : cordonlaw01_Right.f 1 y0 y1 y2 = some true) (ty : y0 ≤ 1) (hz : cordonlaw01_Right.f 1 z0 z1 z2 = some false) :
    Calls Try.prog 4 #[.agg #[.int .i64 x0, .int .i64 x1, .string x2], .agg #[.int .i64 y0, .int .i64 y1, .string y2], .agg #[.int .i64 z0, .int .i64 z1, .string z2]] w
      fun e w' => e = .returned (.bool true) ∧ Below w.heap.size w w' := by
  have hu33 := Try.underlying33
  have X := Aside0.mk hx
  clear hx
  have dx : decide (1 < x0) = false := decide_eq_false (by omega)
  clear tx
  have Y := Aside0.mk hy
  clear hy
  have dy : decide (1 < y0) = false := decide_eq_false (by omega)
  clear ty
  have Z := Aside0.mk hz
  clear hz
  go_enter Try.func4, Try.ntmps4
  go_wp2_with fail
  refine wp_loop_rounds 4 ?_
  rw [rounds_succ]
  go_wp2_with fail
  refine (cordonlaw01_Right.calls 1 _ _ _ true _ X.out).mono ?_
  rintro e w1 ⟨rfl, hb⟩
  have HB1 := Aside0.mk (below_step (by repeat (first | exact Below.refl w.heap.size w | apply below_alloc) : Below w.heap.size w _) hb)
  obtain ⟨hc1, hf1⟩ := bcell hb
  have hz1 : w.heap.size + 4 < w1.heap.size := by have := hb.size; simp at this; omega
  have a3 : w1.cell? ⟨(w.heap.size + 1 + 1 + 1), 3, none⟩ = some (.int .i64 y0) := (hc1 (w.heap.size + 1 + 1 + 1) 3 (by simp <;> omega)).trans (by simp [go_sem])
  have a4 : w1.cell? ⟨(w.heap.size + 1 + 1 + 1), 4, none⟩ = some (.int .i64 y1) := (hc1 (w.heap.size + 1 + 1 + 1) 4 (by simp <;> omega)).trans (by simp [go_sem])
  have a5 : w1.cell? ⟨(w.heap.size + 1 + 1 + 1), 5, none⟩ = some (.string y2) := (hc1 (w.heap.size + 1 + 1 + 1) 5 (by simp <;> omega)).trans (by simp [go_sem])
  have a6 : w1.cell? ⟨(w.heap.size + 1 + 1 + 1), 6, none⟩ = some (.int .i64 z0) := (hc1 (w.heap.size + 1 + 1 + 1) 6 (by simp <;> omega)).trans (by simp [go_sem])
  have a7 : w1.cell? ⟨(w.heap.size + 1 + 1 + 1), 7, none⟩ = some (.int .i64 z1) := (hc1 (w.heap.size + 1 + 1 + 1) 7 (by simp <;> omega)).trans (by simp [go_sem])
  have a8 : w1.cell? ⟨(w.heap.size + 1 + 1 + 1), 8, none⟩ = some (.string z2) := (hc1 (w.heap.size + 1 + 1 + 1) 8 (by simp <;> omega)).trans (by simp [go_sem])
  have v0 : w1.cell? ⟨(w.heap.size + 1 + 1 + 1 + 1), 0, none⟩ = some (.int .i64 x0) := (hc1 (w.heap.size + 1 + 1 + 1 + 1) 0 (by simp <;> omega)).trans (by simp [go_sem])
  clear hb hc1 hf1
  go_wp2_with fail
  clear v0
  rw [rounds_succ]
  go_wp2_with fail
  refine (cordonlaw01_Right.calls 1 _ _ _ true _ Y.out).mono ?_
  rintro e w2 ⟨rfl, hb⟩
  have v0 : w2.cell? ⟨w1.heap.size, 0, none⟩ = some (.int .i64 y0) := ((bcell hb).1 w1.heap.size 0 (by simp)).trans (by simp [go_sem])
  have hb := below_step (by repeat (first | exact Below.refl w1.heap.size w1 | refine below_set ?_ (by omega) | apply below_alloc) : Below w1.heap.size w1 _) hb
  have HB2 := Aside0.mk (below_step HB1.out hb)
  obtain ⟨hc, hf⟩ := bcell hb
  have hz2 : w.heap.size + 4 < w2.heap.size := by have := hb.size; omega
  replace a6 : w2.cell? ⟨(w.heap.size + 1 + 1 + 1), 6, none⟩ = some (.int .i64 z0) := (hc (w.heap.size + 1 + 1 + 1) 6 (by omega)).trans a6
  replace a7 : w2.cell? ⟨(w.heap.size + 1 + 1 + 1), 7, none⟩ = some (.int .i64 z1) := (hc (w.heap.size + 1 + 1 + 1) 7 (by omega)).trans a7
  replace a8 : w2.cell? ⟨(w.heap.size + 1 + 1 + 1), 8, none⟩ = some (.string z2) := (hc (w.heap.size + 1 + 1 + 1) 8 (by omega)).trans a8
  clear hb hc hf
  go_wp2_with fail
  clear v0
  rw [rounds_succ]
  go_wp2_with fail
  refine (cordonlaw01_Right.calls 1 _ _ _ false _ Z.out).mono ?_
  rintro e w3 ⟨rfl, hb⟩
  have v0 : w3.cell? ⟨w2.heap.size, 0, none⟩ = some (.int .i64 z0) := ((bcell hb).1 w2.heap.size 0 (by simp)).trans (by simp [go_sem])
  have hb := below_step (by repeat (first | exact Below.refl w2.heap.size w2 | refine below_set ?_ (by omega) | apply below_alloc) : Below w2.heap.size w2 _) hb
  have HB3 := Aside0.mk (below_step HB2.out hb)
  obtain ⟨hc, hf⟩ := bcell hb
  have hz3 : w.heap.size + 4 < w3.heap.size := by have := hb.size; omega
  clear hb hc hf
  go_wp2_with fail
  refine (cordonlaw01_alive.calls true _ rfl).mono ?_
  rintro e w' ⟨rfl, hb⟩
  have HB := Aside0.mk (below_step HB3.out hb)
  clear hb
  go_wp2_with fail
  go_ret
  exact ⟨rfl, HB.out⟩

set_option maxRecDepth 100000 in
set_option maxHeartbeats 4000000 in
theorem laws_bad3t (x0 x1 : Int) (x2 : ByteArray) (y0 y1 : Int) (y2 : ByteArray) (z0 z1 : Int) (z2 : ByteArray) (w : World) (hx : cordonlaw01_Right.f 1 x0 x1 x2 = some true) (tx : x0 ≤ 1) (hy : cordonlaw01_Right.f 1 y0 y1 y2 = some true) (ty : y0 ≤ 1) (hz : cordonlaw01_Right.f 1 z0 z1 z2 = some true) (tz : 1 < z0) :
    Calls Try.prog 4 #[.agg #[.int .i64 x0, .int .i64 x1, .string x2], .agg #[.int .i64 y0, .int .i64 y1, .string y2], .agg #[.int .i64 z0, .int .i64 z1, .string z2]] w
      fun e w' => e = .returned (.bool true) ∧ Below w.heap.size w w' := by
  have hu33 := Try.underlying33
  have X := Aside0.mk hx
  clear hx
  have dx : decide (1 < x0) = false := decide_eq_false (by omega)
  clear tx
  have Y := Aside0.mk hy
  clear hy
  have dy : decide (1 < y0) = false := decide_eq_false (by omega)
  clear ty
  have Z := Aside0.mk hz
  clear hz
  have dz : decide (1 < z0) = true := decide_eq_true tz
  clear tz
  go_enter Try.func4, Try.ntmps4
  go_wp2_with fail
  refine wp_loop_rounds 4 ?_
  rw [rounds_succ]
  go_wp2_with fail
  refine (cordonlaw01_Right.calls 1 _ _ _ true _ X.out).mono ?_
  rintro e w1 ⟨rfl, hb⟩
  have HB1 := Aside0.mk (below_step (by repeat (first | exact Below.refl w.heap.size w | apply below_alloc) : Below w.heap.size w _) hb)
  obtain ⟨hc1, hf1⟩ := bcell hb
  have hz1 : w.heap.size + 4 < w1.heap.size := by have := hb.size; simp at this; omega
  have a3 : w1.cell? ⟨(w.heap.size + 1 + 1 + 1), 3, none⟩ = some (.int .i64 y0) := (hc1 (w.heap.size + 1 + 1 + 1) 3 (by simp <;> omega)).trans (by simp [go_sem])
  have a4 : w1.cell? ⟨(w.heap.size + 1 + 1 + 1), 4, none⟩ = some (.int .i64 y1) := (hc1 (w.heap.size + 1 + 1 + 1) 4 (by simp <;> omega)).trans (by simp [go_sem])
  have a5 : w1.cell? ⟨(w.heap.size + 1 + 1 + 1), 5, none⟩ = some (.string y2) := (hc1 (w.heap.size + 1 + 1 + 1) 5 (by simp <;> omega)).trans (by simp [go_sem])
  have a6 : w1.cell? ⟨(w.heap.size + 1 + 1 + 1), 6, none⟩ = some (.int .i64 z0) := (hc1 (w.heap.size + 1 + 1 + 1) 6 (by simp <;> omega)).trans (by simp [go_sem])
  have a7 : w1.cell? ⟨(w.heap.size + 1 + 1 + 1), 7, none⟩ = some (.int .i64 z1) := (hc1 (w.heap.size + 1 + 1 + 1) 7 (by simp <;> omega)).trans (by simp [go_sem])
  have a8 : w1.cell? ⟨(w.heap.size + 1 + 1 + 1), 8, none⟩ = some (.string z2) := (hc1 (w.heap.size + 1 + 1 + 1) 8 (by simp <;> omega)).trans (by simp [go_sem])
  have v0 : w1.cell? ⟨(w.heap.size + 1 + 1 + 1 + 1), 0, none⟩ = some (.int .i64 x0) := (hc1 (w.heap.size + 1 + 1 + 1 + 1) 0 (by simp <;> omega)).trans (by simp [go_sem])
  clear hb hc1 hf1
  go_wp2_with fail
  clear v0
  rw [rounds_succ]
  go_wp2_with fail
  refine (cordonlaw01_Right.calls 1 _ _ _ true _ Y.out).mono ?_
  rintro e w2 ⟨rfl, hb⟩
  have v0 : w2.cell? ⟨w1.heap.size, 0, none⟩ = some (.int .i64 y0) := ((bcell hb).1 w1.heap.size 0 (by simp)).trans (by simp [go_sem])
  have hb := below_step (by repeat (first | exact Below.refl w1.heap.size w1 | refine below_set ?_ (by omega) | apply below_alloc) : Below w1.heap.size w1 _) hb
  have HB2 := Aside0.mk (below_step HB1.out hb)
  obtain ⟨hc, hf⟩ := bcell hb
  have hz2 : w.heap.size + 4 < w2.heap.size := by have := hb.size; omega
  replace a6 : w2.cell? ⟨(w.heap.size + 1 + 1 + 1), 6, none⟩ = some (.int .i64 z0) := (hc (w.heap.size + 1 + 1 + 1) 6 (by omega)).trans a6
  replace a7 : w2.cell? ⟨(w.heap.size + 1 + 1 + 1), 7, none⟩ = some (.int .i64 z1) := (hc (w.heap.size + 1 + 1 + 1) 7 (by omega)).trans a7
  replace a8 : w2.cell? ⟨(w.heap.size + 1 + 1 + 1), 8, none⟩ = some (.string z2) := (hc (w.heap.size + 1 + 1 + 1) 8 (by omega)).trans a8
  clear hb hc hf
  go_wp2_with fail
  clear v0
  rw [rounds_succ]
  go_wp2_with fail
  refine (cordonlaw01_Right.calls 1 _ _ _ true _ Z.out).mono ?_
  rintro e w3 ⟨rfl, hb⟩
  have v0 : w3.cell? ⟨w2.heap.size, 0, none⟩ = some (.int .i64 z0) := ((bcell hb).1 w2.heap.size 0 (by simp)).trans (by simp [go_sem])
  have hb := below_step (by repeat (first | exact Below.refl w2.heap.size w2 | refine below_set ?_ (by omega) | apply below_alloc) : Below w2.heap.size w2 _) hb
  have HB3 := Aside0.mk (below_step HB2.out hb)
  obtain ⟨hc, hf⟩ := bcell hb
  have hz3 : w.heap.size + 4 < w3.heap.size := by have := hb.size; omega
  clear hb hc hf
  go_wp2_with fail
  refine (cordonlaw01_alive.calls true _ rfl).mono ?_
  rintro e w' ⟨rfl, hb⟩
  have HB := Aside0.mk (below_step HB3.out hb)
  clear hb
  go_wp2_with fail
  go_ret
  exact ⟨rfl, HB.out⟩
end Go.Proofs.Ythghflgmeepnlaa.Pa
