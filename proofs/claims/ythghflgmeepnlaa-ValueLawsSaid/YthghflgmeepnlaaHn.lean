/- cordonlaw01.ValueLaws answers true: any three values. -/
import Derived.Test.YthghflgmeepnlaaHm
import Derived.Test.YthghflgmeepnlaaQb
import Derived.Test.YthghflgmeepnlaaPaG1bb
namespace Go.Proofs.Ythghflgmeepnlaa.Pa
open Go.RowKit Go.Proofs.YthghflgmeepnlaaW.PrintWords Go.Proofs.YthghflgmeepnlaaW.PrintLast Go.Proofs.YthghflgmeepnlaaW.PrintMore
set_option linter.unusedVariables false
set_option linter.unusedSimpArgs false
attribute [local go_sem high] eqA33

theorem right_ty (x : Option Bool) : cordonlaw01_Right.f 1 (ty x) (nn x) ⟨#[]⟩ = some true := by
  have e : rightV ⟨ty x, nn x, ⟨#[]⟩⟩ = 0 := by rcases x with _ | _ | _ <;> simp [rightV, ty, nn, txt_empty]
  unfold cordonlaw01_Right.f
  rw [right_ref 0 ⟨ty x, nn x, ⟨#[]⟩⟩, e]
  rfl
theorem ty_le (x : Option Bool) : ty x ≤ 1 := by cases x <;> simp [ty]

def heldS (b B : Nat) (x y z : Option Bool) (w : World) : Prop := w.cell? ⟨b, 0, none⟩ = some (.int .i64 (ty x)) ∧ w.cell? ⟨b, 1, none⟩ = some (.int .i64 (nn x)) ∧ w.cell? ⟨b, 2, none⟩ = some (.string ⟨#[]⟩) ∧ w.cell? ⟨b + 1, 0, none⟩ = some (.int .i64 (ty y)) ∧ w.cell? ⟨b + 1, 1, none⟩ = some (.int .i64 (nn y)) ∧ w.cell? ⟨b + 1, 2, none⟩ = some (.string ⟨#[]⟩) ∧ w.cell? ⟨b + 1 + 1, 0, none⟩ = some (.int .i64 (ty z)) ∧ w.cell? ⟨b + 1 + 1, 1, none⟩ = some (.int .i64 (nn z)) ∧ w.cell? ⟨b + 1 + 1, 2, none⟩ = some (.string ⟨#[]⟩) ∧ w.heap[B]? = some (.cells #[.bool true] 4 (0, 0)) ∧ w.cell? ⟨B, 0, none⟩ = some (.bool true)
theorem keepS {b B : Nat} {x y z : Option Bool} {w w' : World} (hb : Below w.heap.size w w') (h : heldS b B x y z w) : heldS b B x y z w' := by
  obtain ⟨h0, h1, h2, h3, h4, h5, h6, h7, h8, h9, h10⟩ := h
  exact ⟨pw_cell_below hb h0, pw_cell_below hb h1, pw_cell_below hb h2, pw_cell_below hb h3, pw_cell_below hb h4, pw_cell_below hb h5, pw_cell_below hb h6, pw_cell_below hb h7, pw_cell_below hb h8, (hb.block _ (blk_lt h9)).trans h9, pw_cell_below hb h10⟩

set_option maxRecDepth 100000 in
set_option maxHeartbeats 4000000 in
theorem laws_main (x y z : Option Bool) (w : World) :
    Calls Try.prog 4 #[.agg #[.int .i64 (ty x), .int .i64 (nn x), .string ⟨#[]⟩], .agg #[.int .i64 (ty y), .int .i64 (nn y), .string ⟨#[]⟩], .agg #[.int .i64 (ty z), .int .i64 (nn z), .string ⟨#[]⟩]] w
      fun e w' => e = .returned (.bool true) ∧ Below w.heap.size w w' := by
  have hu33 := Try.underlying33
  have X := Aside0.mk (right_ty x)
  have Y := Aside0.mk (right_ty y)
  have Z := Aside0.mk (right_ty z)
  have tx : decide (1 < ty x) = false := decide_eq_false (by have := ty_le x; omega)
  have tY : decide (1 < ty y) = false := decide_eq_false (by have := ty_le y; omega)
  have tz : decide (1 < ty z) = false := decide_eq_false (by have := ty_le z; omega)
  go_enter Try.func4, Try.ntmps4
  go_wp2_with fail
  refine wp_loop_rounds 4 ?_
  rw [rounds_succ]
  go_wp2_with fail
  refine (cordonlaw01_Right.calls 1 _ _ _ true _ X.out).mono ?_
  rintro e w1 ⟨rfl, hb⟩
  have HB1 := Aside0.mk (below_step (by repeat (first | exact Below.refl w.heap.size w | apply below_alloc) : Below w.heap.size w _) hb)
  obtain ⟨hc1, hf1⟩ := bcell hb
  have hz1 : w.heap.size + 4 < w1.heap.size := by have := hb.size; simp at this; omega
  have b00 : w1.cell? ⟨w.heap.size, 0, none⟩ = some (.int .i64 (ty x)) := (hc1 w.heap.size 0 (by simp <;> omega)).trans (by simp [go_sem])
  have b01 : w1.cell? ⟨w.heap.size, 1, none⟩ = some (.int .i64 (nn x)) := (hc1 w.heap.size 1 (by simp <;> omega)).trans (by simp [go_sem])
  have b02 : w1.cell? ⟨w.heap.size, 2, none⟩ = some (.string ⟨#[]⟩) := (hc1 w.heap.size 2 (by simp <;> omega)).trans (by simp [go_sem])
  have b10 : w1.cell? ⟨(w.heap.size + 1), 0, none⟩ = some (.int .i64 (ty y)) := (hc1 (w.heap.size + 1) 0 (by simp <;> omega)).trans (by simp [go_sem])
  have b11 : w1.cell? ⟨(w.heap.size + 1), 1, none⟩ = some (.int .i64 (nn y)) := (hc1 (w.heap.size + 1) 1 (by simp <;> omega)).trans (by simp [go_sem])
  have b12 : w1.cell? ⟨(w.heap.size + 1), 2, none⟩ = some (.string ⟨#[]⟩) := (hc1 (w.heap.size + 1) 2 (by simp <;> omega)).trans (by simp [go_sem])
  have b20 : w1.cell? ⟨(w.heap.size + 1 + 1), 0, none⟩ = some (.int .i64 (ty z)) := (hc1 (w.heap.size + 1 + 1) 0 (by simp <;> omega)).trans (by simp [go_sem])
  have b21 : w1.cell? ⟨(w.heap.size + 1 + 1), 1, none⟩ = some (.int .i64 (nn z)) := (hc1 (w.heap.size + 1 + 1) 1 (by simp <;> omega)).trans (by simp [go_sem])
  have b22 : w1.cell? ⟨(w.heap.size + 1 + 1), 2, none⟩ = some (.string ⟨#[]⟩) := (hc1 (w.heap.size + 1 + 1) 2 (by simp <;> omega)).trans (by simp [go_sem])
  have a3 : w1.cell? ⟨(w.heap.size + 1 + 1 + 1), 3, none⟩ = some (.int .i64 (ty y)) := (hc1 (w.heap.size + 1 + 1 + 1) 3 (by simp <;> omega)).trans (by simp [go_sem])
  have a4 : w1.cell? ⟨(w.heap.size + 1 + 1 + 1), 4, none⟩ = some (.int .i64 (nn y)) := (hc1 (w.heap.size + 1 + 1 + 1) 4 (by simp <;> omega)).trans (by simp [go_sem])
  have a5 : w1.cell? ⟨(w.heap.size + 1 + 1 + 1), 5, none⟩ = some (.string ⟨#[]⟩) := (hc1 (w.heap.size + 1 + 1 + 1) 5 (by simp <;> omega)).trans (by simp [go_sem])
  have a6 : w1.cell? ⟨(w.heap.size + 1 + 1 + 1), 6, none⟩ = some (.int .i64 (ty z)) := (hc1 (w.heap.size + 1 + 1 + 1) 6 (by simp <;> omega)).trans (by simp [go_sem])
  have a7 : w1.cell? ⟨(w.heap.size + 1 + 1 + 1), 7, none⟩ = some (.int .i64 (nn z)) := (hc1 (w.heap.size + 1 + 1 + 1) 7 (by simp <;> omega)).trans (by simp [go_sem])
  have a8 : w1.cell? ⟨(w.heap.size + 1 + 1 + 1), 8, none⟩ = some (.string ⟨#[]⟩) := (hc1 (w.heap.size + 1 + 1 + 1) 8 (by simp <;> omega)).trans (by simp [go_sem])
  have v0 : w1.cell? ⟨(w.heap.size + 1 + 1 + 1 + 1), 0, none⟩ = some (.int .i64 (ty x)) := (hc1 (w.heap.size + 1 + 1 + 1 + 1) 0 (by simp <;> omega)).trans (by simp [go_sem])
  clear hb hc1 hf1
  go_wp2_with fail
  clear v0
  skip
  rw [rounds_succ]
  go_wp2_with fail
  refine (cordonlaw01_Right.calls 1 _ _ _ true _ Y.out).mono ?_
  rintro e w2 ⟨rfl, hb⟩
  have v0 : w2.cell? ⟨w1.heap.size, 0, none⟩ = some (.int .i64 (ty y)) := ((bcell hb).1 w1.heap.size 0 (by simp)).trans (by simp [go_sem])
  have hb := below_step (by repeat (first | exact Below.refl w1.heap.size w1 | refine below_set ?_ (by omega) | apply below_alloc) : Below w1.heap.size w1 _) hb
  have HB2 := Aside0.mk (below_step HB1.out hb)
  obtain ⟨hc, hf⟩ := bcell hb
  have hz2 : w.heap.size + 4 < w2.heap.size := by have := hb.size; omega
  replace b00 : w2.cell? ⟨w.heap.size, 0, none⟩ = some (.int .i64 (ty x)) := (hc w.heap.size 0 (by omega)).trans b00
  replace b01 : w2.cell? ⟨w.heap.size, 1, none⟩ = some (.int .i64 (nn x)) := (hc w.heap.size 1 (by omega)).trans b01
  replace b02 : w2.cell? ⟨w.heap.size, 2, none⟩ = some (.string ⟨#[]⟩) := (hc w.heap.size 2 (by omega)).trans b02
  replace b10 : w2.cell? ⟨(w.heap.size + 1), 0, none⟩ = some (.int .i64 (ty y)) := (hc (w.heap.size + 1) 0 (by omega)).trans b10
  replace b11 : w2.cell? ⟨(w.heap.size + 1), 1, none⟩ = some (.int .i64 (nn y)) := (hc (w.heap.size + 1) 1 (by omega)).trans b11
  replace b12 : w2.cell? ⟨(w.heap.size + 1), 2, none⟩ = some (.string ⟨#[]⟩) := (hc (w.heap.size + 1) 2 (by omega)).trans b12
  replace b20 : w2.cell? ⟨(w.heap.size + 1 + 1), 0, none⟩ = some (.int .i64 (ty z)) := (hc (w.heap.size + 1 + 1) 0 (by omega)).trans b20
  replace b21 : w2.cell? ⟨(w.heap.size + 1 + 1), 1, none⟩ = some (.int .i64 (nn z)) := (hc (w.heap.size + 1 + 1) 1 (by omega)).trans b21
  replace b22 : w2.cell? ⟨(w.heap.size + 1 + 1), 2, none⟩ = some (.string ⟨#[]⟩) := (hc (w.heap.size + 1 + 1) 2 (by omega)).trans b22
  replace a6 : w2.cell? ⟨(w.heap.size + 1 + 1 + 1), 6, none⟩ = some (.int .i64 (ty z)) := (hc (w.heap.size + 1 + 1 + 1) 6 (by omega)).trans a6
  replace a7 : w2.cell? ⟨(w.heap.size + 1 + 1 + 1), 7, none⟩ = some (.int .i64 (nn z)) := (hc (w.heap.size + 1 + 1 + 1) 7 (by omega)).trans a7
  replace a8 : w2.cell? ⟨(w.heap.size + 1 + 1 + 1), 8, none⟩ = some (.string ⟨#[]⟩) := (hc (w.heap.size + 1 + 1 + 1) 8 (by omega)).trans a8
  clear hb hc hf
  go_wp2_with fail
  clear v0
  rw [rounds_succ]
  go_wp2_with fail
  refine (cordonlaw01_Right.calls 1 _ _ _ true _ Z.out).mono ?_
  rintro e w3 ⟨rfl, hb⟩
  have v0 : w3.cell? ⟨w2.heap.size, 0, none⟩ = some (.int .i64 (ty z)) := ((bcell hb).1 w2.heap.size 0 (by simp)).trans (by simp [go_sem])
  have hb := below_step (by repeat (first | exact Below.refl w2.heap.size w2 | refine below_set ?_ (by omega) | apply below_alloc) : Below w2.heap.size w2 _) hb
  have HB3 := Aside0.mk (below_step HB2.out hb)
  obtain ⟨hc, hf⟩ := bcell hb
  have hz3 : w.heap.size + 4 < w3.heap.size := by have := hb.size; omega
  replace b00 : w3.cell? ⟨w.heap.size, 0, none⟩ = some (.int .i64 (ty x)) := (hc w.heap.size 0 (by omega)).trans b00
  replace b01 : w3.cell? ⟨w.heap.size, 1, none⟩ = some (.int .i64 (nn x)) := (hc w.heap.size 1 (by omega)).trans b01
  replace b02 : w3.cell? ⟨w.heap.size, 2, none⟩ = some (.string ⟨#[]⟩) := (hc w.heap.size 2 (by omega)).trans b02
  replace b10 : w3.cell? ⟨(w.heap.size + 1), 0, none⟩ = some (.int .i64 (ty y)) := (hc (w.heap.size + 1) 0 (by omega)).trans b10
  replace b11 : w3.cell? ⟨(w.heap.size + 1), 1, none⟩ = some (.int .i64 (nn y)) := (hc (w.heap.size + 1) 1 (by omega)).trans b11
  replace b12 : w3.cell? ⟨(w.heap.size + 1), 2, none⟩ = some (.string ⟨#[]⟩) := (hc (w.heap.size + 1) 2 (by omega)).trans b12
  replace b20 : w3.cell? ⟨(w.heap.size + 1 + 1), 0, none⟩ = some (.int .i64 (ty z)) := (hc (w.heap.size + 1 + 1) 0 (by omega)).trans b20
  replace b21 : w3.cell? ⟨(w.heap.size + 1 + 1), 1, none⟩ = some (.int .i64 (nn z)) := (hc (w.heap.size + 1 + 1) 1 (by omega)).trans b21
  replace b22 : w3.cell? ⟨(w.heap.size + 1 + 1), 2, none⟩ = some (.string ⟨#[]⟩) := (hc (w.heap.size + 1 + 1) 2 (by omega)).trans b22
  clear hb hc hf
  go_wp2_with fail
  clear v0
  rw [rounds_succ]
  go_wp2_with fail
  have hkB : (w3.alloc (.cells #[.bool true] 4)).heap[w3.heap.size]? = some (.cells #[.bool true] 4 (0, 0)) := heap_alloc_new w3 _
  have HB := Aside0.mk (below_step HB3.out (below_alloc (Below.refl w3.heap.size w3) (.cells #[.bool true] 4)))
  have hbw := below_alloc (Below.refl w3.heap.size w3) (.cells #[.bool true] 4)
  replace b00 := pw_cell_below hbw b00
  replace b01 := pw_cell_below hbw b01
  replace b02 := pw_cell_below hbw b02
  replace b10 := pw_cell_below hbw b10
  replace b11 := pw_cell_below hbw b11
  replace b12 := pw_cell_below hbw b12
  replace b20 := pw_cell_below hbw b20
  replace b21 := pw_cell_below hbw b21
  replace b22 := pw_cell_below hbw b22
  have hk : (w3.alloc (.cells #[.bool true] 4)).cell? ⟨w3.heap.size, 0, none⟩ = some (.bool true) := (blk_cell hkB 0).trans rfl
  clear hbw hz1 hz2 hz3 a3 a4 a5 a6 a7 a8 HB1 HB2 HB3 X Y Z tx tY tz
  generalize (w3.alloc (.cells #[.bool true] 4)) = W at *
  generalize w3.heap.size = B at *
  have hS0 := Aside0.mk (⟨b00, b01, b02, b10, b11, b12, b20, b21, b22, hkB, hk⟩ : heldS w.heap.size B x y z W)
  clear b00 b01 b02 b10 b11 b12 b20 b21 b22 hkB hk
  have t0 : (ty (and3 x y) == ty (and3 y x)) = true := by rcases x with _ | _ | _ <;> rcases y with _ | _ | _ <;> rcases z with _ | _ | _ <;> rfl
  have n0 : (nn (and3 x y) == nn (and3 y x)) = true := by rcases x with _ | _ | _ <;> rcases y with _ | _ | _ <;> rcases z with _ | _ | _ <;> rfl
  have t1 : (ty (or3 x y) == ty (or3 y x)) = true := by rcases x with _ | _ | _ <;> rcases y with _ | _ | _ <;> rcases z with _ | _ | _ <;> rfl
  have n1 : (nn (or3 x y) == nn (or3 y x)) = true := by rcases x with _ | _ | _ <;> rcases y with _ | _ | _ <;> rcases z with _ | _ | _ <;> rfl
  have t2 : (ty (and3 x (and3 y z)) == ty (and3 (and3 x y) z)) = true := by rcases x with _ | _ | _ <;> rcases y with _ | _ | _ <;> rcases z with _ | _ | _ <;> rfl
  have n2 : (nn (and3 x (and3 y z)) == nn (and3 (and3 x y) z)) = true := by rcases x with _ | _ | _ <;> rcases y with _ | _ | _ <;> rcases z with _ | _ | _ <;> rfl
  have t3 : (ty (or3 x (or3 y z)) == ty (or3 (or3 x y) z)) = true := by rcases x with _ | _ | _ <;> rcases y with _ | _ | _ <;> rcases z with _ | _ | _ <;> rfl
  have n3 : (nn (or3 x (or3 y z)) == nn (or3 (or3 x y) z)) = true := by rcases x with _ | _ | _ <;> rcases y with _ | _ | _ <;> rcases z with _ | _ | _ <;> rfl
  go_region_held3 (fun w' => w'.cell? ⟨w.heap.size, 0, none⟩ = some (.int .i64 (ty x)) ∧ w'.cell? ⟨w.heap.size, 1, none⟩ = some (.int .i64 (nn x)) ∧ w'.cell? ⟨w.heap.size, 2, none⟩ = some (.string ⟨#[]⟩) ∧ w'.cell? ⟨w.heap.size + 1, 0, none⟩ = some (.int .i64 (ty y)) ∧ w'.cell? ⟨w.heap.size + 1, 1, none⟩ = some (.int .i64 (nn y)) ∧ w'.cell? ⟨w.heap.size + 1, 2, none⟩ = some (.string ⟨#[]⟩) ∧ w'.cell? ⟨w.heap.size + 1 + 1, 0, none⟩ = some (.int .i64 (ty z)) ∧ w'.cell? ⟨w.heap.size + 1 + 1, 1, none⟩ = some (.int .i64 (nn z)) ∧ w'.cell? ⟨w.heap.size + 1 + 1, 2, none⟩ = some (.string ⟨#[]⟩) ∧ w'.heap[B]? = some (.cells #[.bool true] 4 (0, 0)) ∧ w'.cell? ⟨B, 0, none⟩ = some (.bool true))
    (first | assumption | exact keepS hb (by assumption) | exact hS0.out)
    (first
      | (go_at_call 26; refine (and_call _ _ B _ (by go_split_ands; assumption)).mono ?_; (try clear hb); rintro e w' ⟨rfl, hb⟩; have n0_ := Aside0.mk (below_step (by first | exact HB.out | exact below_drew1 HB.out) hb); clear HB; have HB := n0_; clear n0_)
      | (go_at_call 28; refine (or_call _ _ B _ (by go_split_ands; assumption)).mono ?_; (try clear hb); rintro e w' ⟨rfl, hb⟩; have n0_ := Aside0.mk (below_step (by first | exact HB.out | exact below_drew1 HB.out) hb); clear HB; have HB := n0_; clear n0_)
      | (go_at_call 30; refine (not_call _ B _ (by go_split_ands; assumption)).mono ?_; (try clear hb); rintro e w' ⟨rfl, hb⟩; have n0_ := Aside0.mk (below_step (by first | exact HB.out | exact below_drew1 HB.out) hb); clear HB; have HB := n0_; clear n0_)
      | (go_at_call 25; refine (cordonlaw01_alive.calls true _ rfl).mono ?_; (try clear hb); rintro e w' ⟨rfl, hb⟩; have n0_ := Aside0.mk (below_step (by first | exact HB.out | exact below_drew1 HB.out) hb); clear HB; have HB := n0_; clear n0_))
  clear t0 n0 t1 n1 t2 n2 t3 n3
  rename_i hH
  clear hS0
  have hS0 := Aside0.mk (show heldS w.heap.size B x y z _ from hH)
  clear hH
  try clear hb
  go_wp2_with fail
  try simp only [List.append]
  have t4 : (ty (and3 x (or3 x y)) == ty x) = true := by rcases x with _ | _ | _ <;> rcases y with _ | _ | _ <;> rcases z with _ | _ | _ <;> rfl
  have n4 : (nn (and3 x (or3 x y)) == nn x) = true := by rcases x with _ | _ | _ <;> rcases y with _ | _ | _ <;> rcases z with _ | _ | _ <;> rfl
  have t5 : (ty (or3 x (and3 x y)) == ty x) = true := by rcases x with _ | _ | _ <;> rcases y with _ | _ | _ <;> rcases z with _ | _ | _ <;> rfl
  have n5 : (nn (or3 x (and3 x y)) == nn x) = true := by rcases x with _ | _ | _ <;> rcases y with _ | _ | _ <;> rcases z with _ | _ | _ <;> rfl
  have t6 : (ty (not3 (and3 x y)) == ty (or3 (not3 x) (not3 y))) = true := by rcases x with _ | _ | _ <;> rcases y with _ | _ | _ <;> rcases z with _ | _ | _ <;> rfl
  have n6 : (nn (not3 (and3 x y)) == nn (or3 (not3 x) (not3 y))) = true := by rcases x with _ | _ | _ <;> rcases y with _ | _ | _ <;> rcases z with _ | _ | _ <;> rfl
  have t7 : (ty (not3 (or3 x y)) == ty (and3 (not3 x) (not3 y))) = true := by rcases x with _ | _ | _ <;> rcases y with _ | _ | _ <;> rcases z with _ | _ | _ <;> rfl
  have n7 : (nn (not3 (or3 x y)) == nn (and3 (not3 x) (not3 y))) = true := by rcases x with _ | _ | _ <;> rcases y with _ | _ | _ <;> rcases z with _ | _ | _ <;> rfl
  have t8 : (ty (not3 (not3 x)) == ty x) = true := by rcases x with _ | _ | _ <;> rcases y with _ | _ | _ <;> rcases z with _ | _ | _ <;> rfl
  have n8 : (nn (not3 (not3 x)) == nn x) = true := by rcases x with _ | _ | _ <;> rcases y with _ | _ | _ <;> rcases z with _ | _ | _ <;> rfl
  go_region_held3 (fun w' => w'.cell? ⟨w.heap.size, 0, none⟩ = some (.int .i64 (ty x)) ∧ w'.cell? ⟨w.heap.size, 1, none⟩ = some (.int .i64 (nn x)) ∧ w'.cell? ⟨w.heap.size, 2, none⟩ = some (.string ⟨#[]⟩) ∧ w'.cell? ⟨w.heap.size + 1, 0, none⟩ = some (.int .i64 (ty y)) ∧ w'.cell? ⟨w.heap.size + 1, 1, none⟩ = some (.int .i64 (nn y)) ∧ w'.cell? ⟨w.heap.size + 1, 2, none⟩ = some (.string ⟨#[]⟩) ∧ w'.cell? ⟨w.heap.size + 1 + 1, 0, none⟩ = some (.int .i64 (ty z)) ∧ w'.cell? ⟨w.heap.size + 1 + 1, 1, none⟩ = some (.int .i64 (nn z)) ∧ w'.cell? ⟨w.heap.size + 1 + 1, 2, none⟩ = some (.string ⟨#[]⟩) ∧ w'.heap[B]? = some (.cells #[.bool true] 4 (0, 0)) ∧ w'.cell? ⟨B, 0, none⟩ = some (.bool true))
    (first | assumption | exact keepS hb (by assumption) | exact hS0.out)
    (first
      | (go_at_call 26; refine (and_call _ _ B _ (by go_split_ands; assumption)).mono ?_; (try clear hb); rintro e w' ⟨rfl, hb⟩; have n0_ := Aside0.mk (below_step (by first | exact HB.out | exact below_drew1 HB.out) hb); clear HB; have HB := n0_; clear n0_)
      | (go_at_call 28; refine (or_call _ _ B _ (by go_split_ands; assumption)).mono ?_; (try clear hb); rintro e w' ⟨rfl, hb⟩; have n0_ := Aside0.mk (below_step (by first | exact HB.out | exact below_drew1 HB.out) hb); clear HB; have HB := n0_; clear n0_)
      | (go_at_call 30; refine (not_call _ B _ (by go_split_ands; assumption)).mono ?_; (try clear hb); rintro e w' ⟨rfl, hb⟩; have n0_ := Aside0.mk (below_step (by first | exact HB.out | exact below_drew1 HB.out) hb); clear HB; have HB := n0_; clear n0_)
      | (go_at_call 25; refine (cordonlaw01_alive.calls true _ rfl).mono ?_; (try clear hb); rintro e w' ⟨rfl, hb⟩; have n0_ := Aside0.mk (below_step (by first | exact HB.out | exact below_drew1 HB.out) hb); clear HB; have HB := n0_; clear n0_))
  clear t4 n4 t5 n5 t6 n6 t7 n7 t8 n8
  rename_i hH
  clear hS0
  have hS0 := Aside0.mk (show heldS w.heap.size B x y z _ from hH)
  clear hH
  try clear hb
  go_wp2_with fail
  try simp only [List.append]
  have t9 : (ty (and3 x (or3 y z)) == ty (or3 (and3 x y) (and3 x z))) = true := by rcases x with _ | _ | _ <;> rcases y with _ | _ | _ <;> rcases z with _ | _ | _ <;> rfl
  have n9 : (nn (and3 x (or3 y z)) == nn (or3 (and3 x y) (and3 x z))) = true := by rcases x with _ | _ | _ <;> rcases y with _ | _ | _ <;> rcases z with _ | _ | _ <;> rfl
  go_region_held3 (fun w' => w'.cell? ⟨w.heap.size, 0, none⟩ = some (.int .i64 (ty x)) ∧ w'.cell? ⟨w.heap.size, 1, none⟩ = some (.int .i64 (nn x)) ∧ w'.cell? ⟨w.heap.size, 2, none⟩ = some (.string ⟨#[]⟩) ∧ w'.cell? ⟨w.heap.size + 1, 0, none⟩ = some (.int .i64 (ty y)) ∧ w'.cell? ⟨w.heap.size + 1, 1, none⟩ = some (.int .i64 (nn y)) ∧ w'.cell? ⟨w.heap.size + 1, 2, none⟩ = some (.string ⟨#[]⟩) ∧ w'.cell? ⟨w.heap.size + 1 + 1, 0, none⟩ = some (.int .i64 (ty z)) ∧ w'.cell? ⟨w.heap.size + 1 + 1, 1, none⟩ = some (.int .i64 (nn z)) ∧ w'.cell? ⟨w.heap.size + 1 + 1, 2, none⟩ = some (.string ⟨#[]⟩) ∧ w'.heap[B]? = some (.cells #[.bool true] 4 (0, 0)) ∧ w'.cell? ⟨B, 0, none⟩ = some (.bool true))
    (first | assumption | exact keepS hb (by assumption) | exact hS0.out)
    (first
      | (go_at_call 26; refine (and_call _ _ B _ (by go_split_ands; assumption)).mono ?_; (try clear hb); rintro e w' ⟨rfl, hb⟩; have n0_ := Aside0.mk (below_step (by first | exact HB.out | exact below_drew1 HB.out) hb); clear HB; have HB := n0_; clear n0_)
      | (go_at_call 28; refine (or_call _ _ B _ (by go_split_ands; assumption)).mono ?_; (try clear hb); rintro e w' ⟨rfl, hb⟩; have n0_ := Aside0.mk (below_step (by first | exact HB.out | exact below_drew1 HB.out) hb); clear HB; have HB := n0_; clear n0_)
      | (go_at_call 30; refine (not_call _ B _ (by go_split_ands; assumption)).mono ?_; (try clear hb); rintro e w' ⟨rfl, hb⟩; have n0_ := Aside0.mk (below_step (by first | exact HB.out | exact below_drew1 HB.out) hb); clear HB; have HB := n0_; clear n0_)
      | (go_at_call 25; refine (cordonlaw01_alive.calls true _ rfl).mono ?_; (try clear hb); rintro e w' ⟨rfl, hb⟩; have n0_ := Aside0.mk (below_step (by first | exact HB.out | exact below_drew1 HB.out) hb); clear HB; have HB := n0_; clear n0_))
  go_wp2
  go_ret
  exact ⟨rfl, HB.out⟩
end Go.Proofs.Ythghflgmeepnlaa.Pa
