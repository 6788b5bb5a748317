/- cordonlaw01.alive answers true: the chapter's example. -/
import Derived.Test.YthghflgmeepnlaaHa
import Derived.Test.YthghflgmeepnlaaPaG2
namespace Go.Proofs.Ythghflgmeepnlaa.Pa
open Go.RowKit Go.Proofs.YthghflgmeepnlaaW.PrintWords Go.Proofs.YthghflgmeepnlaaW.PrintLast Go.Proofs.YthghflgmeepnlaaW.PrintMore
set_option linter.unusedVariables false
set_option linter.unusedSimpArgs false

def cordonlaw01_alive.f : Option Bool := some true
theorem and_ex : value_And.f 4 0 0 ⟨#[]⟩ 1 0 ⟨#[]⟩ = some (1, 0, ⟨#[]⟩, 0) := by
  simp [value_And.f, value_Bool.f, value_logic.f, value_fit.f, value_logic.j0]
theorem div_ex : value_Div.f 2 (-7) ⟨#[]⟩ 2 2 ⟨#[]⟩ = some (2, -3, ⟨#[]⟩, 0) := by
  have h : wrap64 (-3) = -3 := by unfold wrap64; omega
  simp [value_Div.f, reckon, value_Div_1.f, h]
theorem mod_ex : value_Mod.f 2 (-7) ⟨#[]⟩ 2 2 ⟨#[]⟩ = some (2, -1, ⟨#[]⟩, 0) := by
  have h : Int.tmod (-7) 2 = -1 := by decide +kernel
  simp [value_Mod.f, reckon, value_Mod_1.f, h]
theorem add_ex : value_Add.f 2 9223372036854775807 ⟨#[]⟩ 2 1 ⟨#[]⟩ = some (0, 0, ⟨#[]⟩, 4) := by
  have h : wrap64 9223372036854775808 = -9223372036854775808 := by unfold wrap64; omega
  simp [value_Add.f, reckon, value_Add_1.f, h]

set_option maxRecDepth 100000 in
set_option maxHeartbeats 1000000 in
theorem cordonlaw01_alive.calls (r : Bool) (w : World) (h : cordonlaw01_alive.f = some r) :
    Calls Try.prog 25 #[] w fun e w' => e = .returned (.bool r) ∧ Below w.heap.size w w' := by
  obtain rfl := Option.some.inj h
  clear h
  have hu33 := Try.underlying33
  go_enter Try.func25, Try.ntmps25
  go_wp2_with fail
  refine (value_Null.calls 0 0 ⟨#[]⟩ _ rfl).mono ?_
  rintro e w1 ⟨rfl, hb⟩
  have HB1 := Aside0.mk hb
  clear hb
  go_wp2_with fail
  refine (value_Bool.calls false 1 0 ⟨#[]⟩ _ (by simp [value_Bool.f])).mono ?_
  rintro e w2 ⟨rfl, hb⟩
  have HB2 := Aside0.mk (below_step (HB1.out) hb)
  clear HB1
  clear hb
  go_wp2_with fail
  refine (value_And.calls 4 _ _ _ _ _ _ 1 0 ⟨#[]⟩ 0 _ and_ex).mono ?_
  rintro e w3 ⟨rfl, hb⟩
  have HB3 := Aside0.mk (below_step (HB2.out) hb)
  clear HB2
  clear hb
  go_wp2_with fail
  refine (value_Int.calls (-7) 2 (-7) ⟨#[]⟩ _ rfl).mono ?_
  rintro e w4 ⟨rfl, hb⟩
  have HB4 := Aside0.mk (below_step (below_alloc HB3.out _) hb)
  clear HB3
  have Ha4 := Aside0.mk hb
  clear hb
  go_wp2_with fail
  refine (value_Int.calls 2 2 2 ⟨#[]⟩ _ rfl).mono ?_
  rintro e w5 ⟨rfl, hb⟩
  have HB5 := Aside0.mk (below_step (HB4.out) hb)
  clear HB4
  have Ha5 := Aside0.mk (below_step (Ha4.out) hb)
  clear Ha4
  clear hb
  go_wp2_with fail
  refine (value_Div.calls _ _ _ _ _ _ 2 (-3) ⟨#[]⟩ 0 _ div_ex).mono ?_
  rintro e w6 ⟨rfl, hb⟩
  have HB6 := Aside0.mk (below_step (HB5.out) hb)
  clear HB5
  have Ha6 := Aside0.mk (below_step (Ha5.out) hb)
  clear Ha5
  clear hb
  go_wp2_with fail
  refine (value_Int.calls (-7) 2 (-7) ⟨#[]⟩ _ rfl).mono ?_
  rintro e w7 ⟨rfl, hb⟩
  have HB7 := Aside0.mk (below_step (below_alloc HB6.out _) hb)
  clear HB6
  have Ha7 := Aside0.mk (below_step (below_alloc Ha6.out _) hb)
  clear Ha6
  have Hb7 := Aside0.mk hb
  clear hb
  go_wp2_with fail
  refine (value_Int.calls 2 2 2 ⟨#[]⟩ _ rfl).mono ?_
  rintro e w8 ⟨rfl, hb⟩
  have HB8 := Aside0.mk (below_step (HB7.out) hb)
  clear HB7
  have Ha8 := Aside0.mk (below_step (Ha7.out) hb)
  clear Ha7
  have Hb8 := Aside0.mk (below_step (Hb7.out) hb)
  clear Hb7
  clear hb
  go_wp2_with fail
  refine (value_Mod.calls _ _ _ _ _ _ 2 (-1) ⟨#[]⟩ 0 _ mod_ex).mono ?_
  rintro e w9 ⟨rfl, hb⟩
  have HB9 := Aside0.mk (below_step (HB8.out) hb)
  clear HB8
  have Ha9 := Aside0.mk (below_step (Ha8.out) hb)
  clear Ha8
  have Hb9 := Aside0.mk (below_step (Hb8.out) hb)
  clear Hb8
  clear hb
  go_wp2_with fail
  refine (value_Int.calls 9223372036854775807 2 9223372036854775807 ⟨#[]⟩ _ rfl).mono ?_
  rintro e w10 ⟨rfl, hb⟩
  have HB10 := Aside0.mk (below_step (below_alloc HB9.out _) hb)
  clear HB9
  have Ha10 := Aside0.mk (below_step (below_alloc Ha9.out _) hb)
  clear Ha9
  have Hb10 := Aside0.mk (below_step (below_alloc Hb9.out _) hb)
  clear Hb9
  have Hc10 := Aside0.mk hb
  clear hb
  go_wp2_with fail
  refine (value_Int.calls 1 2 1 ⟨#[]⟩ _ rfl).mono ?_
  rintro e w11 ⟨rfl, hb⟩
  have HB11 := Aside0.mk (below_step (HB10.out) hb)
  clear HB10
  have Ha11 := Aside0.mk (below_step (Ha10.out) hb)
  clear Ha10
  have Hb11 := Aside0.mk (below_step (Hb10.out) hb)
  clear Hb10
  have Hc11 := Aside0.mk (below_step (Hc10.out) hb)
  clear Hc10
  clear hb
  go_wp2_with fail
  refine (value_Add.calls _ _ _ _ _ _ 0 0 ⟨#[]⟩ 4 _ add_ex).mono ?_
  rintro e w12 ⟨rfl, hb⟩
  have HB12 := Aside0.mk (below_step (HB11.out) hb)
  clear HB11
  have Ha12 := Aside0.mk (below_step (Ha11.out) hb)
  clear Ha11
  have Hb12 := Aside0.mk (below_step (Hb11.out) hb)
  clear Hb11
  have Hc12 := Aside0.mk (below_step (Hc11.out) hb)
  clear Hc11
  clear hb
  go_wp2_with fail
  have a0 : (w12.alloc (.cells #[.int .i64 0, .int .i64 0, .string ⟨#[]⟩] 33)).cell? ⟨w3.heap.size, 0, none⟩ = some (.int .i64 1) := pw_cell_below (below_alloc Ha12.out _) (by simp)
  have a1 : (w12.alloc (.cells #[.int .i64 0, .int .i64 0, .string ⟨#[]⟩] 33)).cell? ⟨w3.heap.size, 1, none⟩ = some (.int .i64 0) := pw_cell_below (below_alloc Ha12.out _) (by simp)
  have a2 : (w12.alloc (.cells #[.int .i64 0, .int .i64 0, .string ⟨#[]⟩] 33)).cell? ⟨w3.heap.size, 2, none⟩ = some (.string ⟨#[]⟩) := pw_cell_below (below_alloc Ha12.out _) (by simp)
  have b0 : (w12.alloc (.cells #[.int .i64 0, .int .i64 0, .string ⟨#[]⟩] 33)).cell? ⟨w6.heap.size, 0, none⟩ = some (.int .i64 2) := pw_cell_below (below_alloc Hb12.out _) (by simp)
  have b1 : (w12.alloc (.cells #[.int .i64 0, .int .i64 0, .string ⟨#[]⟩] 33)).cell? ⟨w6.heap.size, 1, none⟩ = some (.int .i64 (-3)) := pw_cell_below (below_alloc Hb12.out _) (by simp)
  have b2 : (w12.alloc (.cells #[.int .i64 0, .int .i64 0, .string ⟨#[]⟩] 33)).cell? ⟨w6.heap.size, 2, none⟩ = some (.string ⟨#[]⟩) := pw_cell_below (below_alloc Hb12.out _) (by simp)
  have c0 : (w12.alloc (.cells #[.int .i64 0, .int .i64 0, .string ⟨#[]⟩] 33)).cell? ⟨w9.heap.size, 0, none⟩ = some (.int .i64 2) := pw_cell_below (below_alloc Hc12.out _) (by simp)
  have c1 : (w12.alloc (.cells #[.int .i64 0, .int .i64 0, .string ⟨#[]⟩] 33)).cell? ⟨w9.heap.size, 1, none⟩ = some (.int .i64 (-1)) := pw_cell_below (below_alloc Hc12.out _) (by simp)
  have c2 : (w12.alloc (.cells #[.int .i64 0, .int .i64 0, .string ⟨#[]⟩] 33)).cell? ⟨w9.heap.size, 2, none⟩ = some (.string ⟨#[]⟩) := pw_cell_below (below_alloc Hc12.out _) (by simp)
  clear Ha12 Hb12 Hc12
  have HB := Aside0.mk (below_alloc HB12.out (.cells #[.int .i64 0, .int .i64 0, .string ⟨#[]⟩] 33))
  clear HB12
  generalize (w12.alloc (.cells #[.int .i64 0, .int .i64 0, .string ⟨#[]⟩] 33)) = W at *
  go_region_held3 (fun w' => w'.cell? ⟨w3.heap.size, 0, none⟩ = some (.int .i64 1) ∧ w'.cell? ⟨w3.heap.size, 1, none⟩ = some (.int .i64 0) ∧ w'.cell? ⟨w3.heap.size, 2, none⟩ = some (.string ⟨#[]⟩) ∧ w'.cell? ⟨w6.heap.size, 0, none⟩ = some (.int .i64 2) ∧ w'.cell? ⟨w6.heap.size, 1, none⟩ = some (.int .i64 (-3)) ∧ w'.cell? ⟨w6.heap.size, 2, none⟩ = some (.string ⟨#[]⟩) ∧ w'.cell? ⟨w9.heap.size, 0, none⟩ = some (.int .i64 2) ∧ w'.cell? ⟨w9.heap.size, 1, none⟩ = some (.int .i64 (-1)) ∧ w'.cell? ⟨w9.heap.size, 2, none⟩ = some (.string ⟨#[]⟩))
    (first | go_keep | (refine ⟨?_, ?_, ?_, ?_, ?_, ?_, ?_, ?_, ?_⟩ <;> refine pw_cell_below hb ?_ <;> first | assumption | (simp only [*]; done)))
    (first
      | (go_at_call 34; refine (cordonref01_Bool.calls false 1 0 ⟨#[]⟩ _ (by simp [cordonref01_Bool.f])).mono ?_; rintro e w' ⟨rfl, hb⟩; have n0_ := Aside0.mk (below_step (by first | exact HB.out | exact below_drew1 HB.out) hb); clear HB; have HB := n0_; clear n0_)
      | (go_at_call 36; refine (cordonref01_Int.calls _ 2 _ ⟨#[]⟩ _ rfl).mono ?_; rintro e w' ⟨rfl, hb⟩; have n0_ := Aside0.mk (below_step (by first | exact HB.out | exact below_drew1 HB.out) hb); clear HB; have HB := n0_; clear n0_))
  go_wp2
  go_ret
  exact ⟨by simp [go_sem]; decide +kernel, HB.out⟩
end Go.Proofs.Ythghflgmeepnlaa.Pa
