/- cordonlaw01.ValueMakes answers true: any bool, any number, any text, any value. -/
import Derived.Test.YthghflgmeepnlaaHf
import Derived.Test.YthghflgmeepnlaaQb
import Derived.Test.YthghflgmeepnlaaPax1
namespace Go.Proofs.Ythghflgmeepnlaa.Pa
open Go.RowKit Go.Proofs.YthghflgmeepnlaaW.PrintWords Go.Proofs.YthghflgmeepnlaaW.PrintLast Go.Proofs.YthghflgmeepnlaaW.PrintMore
set_option linter.unusedVariables false
set_option linter.unusedSimpArgs false

attribute [local go_sem high] eqA33

theorem make_true (x : S33) : value_True.f x.f0 x.f1 x.f2 = some (x.f0 == 1 && (x.f1 == 1 && (x.f2.toList == ([] : List UInt8)))) := by
  have e : (⟨#[]⟩ : ByteArray).toList = [] := by rw [toList_txt]; rfl
  simp [value_True.f, value_Bool.f, e]

set_option maxRecDepth 100000 in
set_option maxHeartbeats 2000000 in
theorem makes_walk (b : Bool) (m : Int) (hb1 : value_Bool.f b = some (1, m, ⟨#[]⟩)) (hb2 : cordonref01_Bool.f b = some (1, m, ⟨#[]⟩)) (n : Int) (s : ByteArray) (x0 x1 : Int) (x2 : ByteArray) (r : Int) (hr1 : value_Right.f 1 x0 x1 x2 = some r) (hr2 : cordonref01_Right.f 1 x0 x1 x2 = some r)
    (t : Bool) (ht : value_True.f x0 x1 x2 = some t) (ht2 : (x0 == 1 && (x1 == 1 && x2.toList.isEmpty)) = t) (w : World) :
    Calls Try.prog 5 #[.bool b, .int .i64 n, .string s, .agg #[.int .i64 x0, .int .i64 x1, .string x2]] w fun e w' => e = .returned (.bool true) ∧ Below w.heap.size w w' := by
  have hu33 := Try.underlying33
  have B1 := Aside0.mk hb1
  have B2 := Aside0.mk hb2
  have R1 := Aside0.mk hr1
  have R2 := Aside0.mk hr2
  have T1 := Aside0.mk ht
  clear hb1 hb2 hr1 hr2 ht
  go_enter Try.func5, Try.ntmps5
  go_wp2_with fail
  have c0 : (w.alloc (.cells #[.int .i64 x0, .int .i64 x1, .string x2] 33)).cell? ⟨w.heap.size, 0, none⟩ = some (.int .i64 x0) := by simp
  have c1 : (w.alloc (.cells #[.int .i64 x0, .int .i64 x1, .string x2] 33)).cell? ⟨w.heap.size, 1, none⟩ = some (.int .i64 x1) := by simp
  have c2 : (w.alloc (.cells #[.int .i64 x0, .int .i64 x1, .string x2] 33)).cell? ⟨w.heap.size, 2, none⟩ = some (.string x2) := by simp
  have HB := Aside0.mk (below_alloc (Below.refl w.heap.size w) (.cells #[.int .i64 x0, .int .i64 x1, .string x2] 33))
  generalize (w.alloc (.cells #[.int .i64 x0, .int .i64 x1, .string x2] 33)) = W at *
  go_region_held3 (fun w' => w'.cell? ⟨w.heap.size, 0, none⟩ = some (.int .i64 x0) ∧ w'.cell? ⟨w.heap.size, 1, none⟩ = some (.int .i64 x1) ∧ w'.cell? ⟨w.heap.size, 2, none⟩ = some (.string x2))
    (first | go_keep | (refine ⟨?_, ?_, ?_⟩ <;> refine pw_cell_below hb ?_ <;> first | assumption | (simp only [*]; done)))
    (first
      | (go_at_call 32; refine (value_Null.calls 0 0 ⟨#[]⟩ _ rfl).mono ?_; rintro e w' ⟨rfl, hb⟩; have n0_ := Aside0.mk (below_step (by first | exact HB.out | exact below_drew1 HB.out) hb); clear HB; have HB := n0_; clear n0_)
      | (go_at_call 33; refine (value_Bool.calls _ 1 m ⟨#[]⟩ _ B1.out).mono ?_; rintro e w' ⟨rfl, hb⟩; have n0_ := Aside0.mk (below_step (by first | exact HB.out | exact below_drew1 HB.out) hb); clear HB; have HB := n0_; clear n0_)
      | (go_at_call 34; refine (cordonref01_Bool.calls b 1 m ⟨#[]⟩ _ B2.out).mono ?_; rintro e w' ⟨rfl, hb⟩; have n0_ := Aside0.mk (below_step (by first | exact HB.out | exact below_drew1 HB.out) hb); clear HB; have HB := n0_; clear n0_)
      | (go_at_call 34; refine (cordonref01_Bool.calls true 1 1 ⟨#[]⟩ _ (by simp [cordonref01_Bool.f])).mono ?_; rintro e w' ⟨rfl, hb⟩; have n0_ := Aside0.mk (below_step (by first | exact HB.out | exact below_drew1 HB.out) hb); clear HB; have HB := n0_; clear n0_)
      | (go_at_call 35; refine (value_Int.calls _ 2 _ ⟨#[]⟩ _ rfl).mono ?_; rintro e w' ⟨rfl, hb⟩; have n0_ := Aside0.mk (below_step (by first | exact HB.out | exact below_drew1 HB.out) hb); clear HB; have HB := n0_; clear n0_)
      | (go_at_call 36; refine (cordonref01_Int.calls _ 2 _ ⟨#[]⟩ _ rfl).mono ?_; rintro e w' ⟨rfl, hb⟩; have n0_ := Aside0.mk (below_step (by first | exact HB.out | exact below_drew1 HB.out) hb); clear HB; have HB := n0_; clear n0_)
      | (go_at_call 37; refine (value_Text.calls _ 3 0 _ _ rfl).mono ?_; rintro e w' ⟨rfl, hb⟩; have n0_ := Aside0.mk (below_step (by first | exact HB.out | exact below_drew1 HB.out) hb); clear HB; have HB := n0_; clear n0_)
      | (go_at_call 38; refine (cordonref01_Text.calls _ 3 0 _ _ rfl).mono ?_; rintro e w' ⟨rfl, hb⟩; have n0_ := Aside0.mk (below_step (by first | exact HB.out | exact below_drew1 HB.out) hb); clear HB; have HB := n0_; clear n0_)
      | (go_at_call 39; refine (value_Right.calls 1 _ _ _ r _ R1.out).mono ?_; rintro e w' ⟨rfl, hb⟩; have n0_ := Aside0.mk (below_step (by first | exact HB.out | exact below_drew1 HB.out) hb); clear HB; have HB := n0_; clear n0_)
      | (go_at_call 40; refine (cordonref01_Right.calls 1 _ _ _ r _ R2.out).mono ?_; rintro e w' ⟨rfl, hb⟩; have n0_ := Aside0.mk (below_step (by first | exact HB.out | exact below_drew1 HB.out) hb); clear HB; have HB := n0_; clear n0_)
      | (go_at_call 41; refine (value_True.calls _ _ _ t _ T1.out).mono ?_; rintro e w' ⟨rfl, hb⟩; have n0_ := Aside0.mk (below_step (by first | exact HB.out | exact below_drew1 HB.out) hb); clear HB; have HB := n0_; clear n0_)
      | (go_at_call 25; refine (cordonlaw01_alive.calls true _ rfl).mono ?_; rintro e w' ⟨rfl, hb⟩; have n0_ := Aside0.mk (below_step (by first | exact HB.out | exact below_drew1 HB.out) hb); clear HB; have HB := n0_; clear n0_))
  go_wp2
  go_ret
  exact ⟨rfl, HB.out⟩

def cordonlaw01_ValueMakes.f (a0 : Bool) (a1 : Int) (a2 : ByteArray) (a3_0 a3_1 : Int) (a3_2 : ByteArray) : Option Bool := some true
theorem cordonlaw01_ValueMakes.calls (a0 : Bool) (a1 : Int) (a2 : ByteArray) (a3_0 a3_1 : Int) (a3_2 : ByteArray) (r : Bool) (w : World) (h : cordonlaw01_ValueMakes.f a0 a1 a2 a3_0 a3_1 a3_2 = some r) :
    Calls Try.prog 5 #[.bool a0, .int .i64 a1, .string a2, .agg #[.int .i64 a3_0, .int .i64 a3_1, .string a3_2]] w fun e w' => e = .returned (.bool r) ∧ Below w.heap.size w w' := by
  obtain rfl := Option.some.inj h
  refine makes_walk a0 (if a0 then 1 else 0) (by cases a0 <;> simp [value_Bool.f]) (by cases a0 <;> simp [cordonref01_Bool.f]) a1 a2 a3_0 a3_1 a3_2 _ (right_is 0 ⟨a3_0, a3_1, a3_2⟩) (right_ref 0 ⟨a3_0, a3_1, a3_2⟩) _ (make_true ⟨a3_0, a3_1, a3_2⟩) ?_ w
  cases h : a3_2.toList <;> simp [h]
end Go.Proofs.Ythghflgmeepnlaa.Pa
