/- slices.CompareFunc with value.Order, and code.Order: how two rows stand. -/
import Derived.Test.YthghflgmeepnlaaQa
import Derived.Test.YthghflgmeepnlaaPaG3
namespace Go.Proofs.Ythghflgmeepnlaa.Pa
open Go.RowKit Go.Proofs.YthghflgmeepnlaaW.PrintWords Go.Proofs.YthghflgmeepnlaaW.PrintLast Go.Proofs.YthghflgmeepnlaaW.PrintMore
set_option linter.unusedVariables false
set_option linter.unusedSimpArgs false

def ordL : List S33 → List S33 → Int
  | [], [] => 0
  | [], _ :: _ => -1
  | _ :: _, [] => 1
  | x :: xs, y :: ys => if ordS x y = 0 then ordL xs ys else ordS x y

theorem wrap_in' (x : Int) (h1 : -9223372036854775808 ≤ x) (h2 : x ≤ 9223372036854775807) : wrap64 x = x := by
  unfold wrap64
  omega
theorem drop_rd (l : List S33) (i : Nat) (h : i < l.length) : l.drop i = rd_T33 l i :: l.drop (i + 1) := by
  rw [List.drop_eq_getElem_cons h]
  simp [rd_T33, List.getD, h]
theorem ordL_step (l0 l1 : List S33) (i : Nat) (h0 : i < l0.length) (h1 : i < l1.length) :
    ordL (l0.drop i) (l1.drop i) = if ordS (rd_T33 l0 i) (rd_T33 l1 i) = 0 then ordL (l0.drop (i + 1)) (l1.drop (i + 1)) else ordS (rd_T33 l0 i) (rd_T33 l1 i) := by
  rw [drop_rd l0 i h0, drop_rd l1 i h1]; rfl
theorem ordL_more (l0 l1 : List S33) (i : Nat) (h0 : i < l0.length) (h1 : ¬ i < l1.length) : ordL (l0.drop i) (l1.drop i) = 1 := by
  rw [drop_rd l0 i h0, show l1.drop i = [] from List.drop_eq_nil_of_le (by omega)]; rfl
theorem ordL_less (l0 l1 : List S33) (i : Nat) (h0 : ¬ i < l0.length) (h1 : i < l1.length) : ordL (l0.drop i) (l1.drop i) = -1 := by
  rw [drop_rd l1 i h1, show l0.drop i = [] from List.drop_eq_nil_of_le (by omega)]; rfl
theorem ordL_end (l0 l1 : List S33) (i : Nat) (h0 : ¬ i < l0.length) (h1 : ¬ i < l1.length) : ordL (l0.drop i) (l1.drop i) = 0 := by
  rw [List.drop_eq_nil_of_le (by omega), List.drop_eq_nil_of_le (by omega)]; rfl

set_option maxHeartbeats 4000000 in
set_option maxRecDepth 100000 in
theorem compare_func (A0 : Option Addr) (c0 : Nat) (l0 : List (S33)) (A1 : Option Addr) (c1 : Nat) (l1 : List (S33)) (w : World) (hr0 : Kd.C k33 w A0 l0.length l0) (hc0 : l0.length ≤ c0) (hr1 : Kd.C k33 w A1 l1.length l1) (hc1 : l1.length ≤ c1) (hlen0 : (l0.length : Int) < 9223372036854775807) (r : Int) (hr : ordL l0 l1 = r) :
    Calls Try.prog 84 #[.slice A0 l0.length c0, .slice A1 l1.length c1, .func (.func 50) #[] #[]] w fun e w' => e = .returned (.int .i64 r) ∧ Below w.heap.size w w' := by
  have hu33 := Try.underlying33
  have HR0 := Aside0.mk hr0
  have HR1 := Aside0.mk hr1
  have HC := Aside0.mk (And.intro hc0 hc1)
  have HL := Aside0.mk hlen0
  have HB := Aside0.mk (Below.refl w.heap.size w)
  have H := Aside0.mk hr
  clear hr0 hc0 hr1 hc1 hlen0 hr
  go_enter Try.func84, Try.ntmps84
  go_wp2
  go_loopg [13] l0.length (fun kq v13 w' => ∃ (i : Nat), v13 = .int .i64 (i : Int) ∧ Aside0 (i + kq = l0.length ∧ i ≤ l1.length ∧ ordL (l0.drop i) (l1.drop i) = r) ∧ Aside0 (Below w.heap.size w w'))
  case atStart => exact ⟨0, rfl, ⟨by omega, by omega, by simpa using H.out⟩, HB⟩
  case round =>
    clear H
    obtain ⟨i, rfl, HI, HB⟩ := hrel
    by_cases h0 : i < l0.length
    · have d0 : decide ((i : Int) < (l0.length : Int)) = true := decide_eq_true (by omega)
      by_cases h1 : i < l1.length
      · have d1 : decide ((l1.length : Int) ≤ (i : Int)) = false := decide_eq_false (by omega)
        have hs := ordL_step l0 l1 i h0 h1
        have p0 : 0 ≤ (i : Int) := by omega
        have q0 : (i : Int) < (l0.length : Int) := by omega
        have q1 : (i : Int) < (l1.length : Int) := by omega
        obtain ⟨ad0, e0, x0, x1, x2⟩ := at_T33 HR0.out i p0 q0
        obtain ⟨ad1, e1, y0, y1, y2⟩ := at_T33 HR1.out i p0 q1
        cases e0
        cases e1
        replace x0 := pw_cell_below HB.out x0
        replace x1 := pw_cell_below HB.out x1
        replace x2 := pw_cell_below HB.out x2
        replace y0 := pw_cell_below HB.out y0
        replace y1 := pw_cell_below HB.out y1
        replace y2 := pw_cell_below HB.out y2
        simp only [Int.toNat_natCast] at x0 x1 x2 y0 y1 y2
        have ly := World.block_lt_of_cell? wr _ y0
        generalize hx : rd_T33 l0 i = X at *
        generalize hy : rd_T33 l1 i = Y at *
        have V := Aside0.mk (order_is 0 X.f0 X.f1 X.f2 Y.f0 Y.f1 Y.f2)
        have HS := Aside0.mk hs
        clear hs
        have Wb := Aside0.mk HB.out.size
        go_wp2_with fail
        refine (value_Order.calls 4 _ _ _ _ _ _ _ _ V.out).mono ?_
        rintro e w1 ⟨rfl, hb⟩
        have HB1 := Aside0.mk (Below.trans HB.out ((below_step (by repeat (first | exact Below.refl wr.heap.size wr | apply below_alloc) : Below wr.heap.size wr _) hb).mono HB.out.size))
        clear hb
        by_cases hz : ordV X.f0 X.f1 X.f2 Y.f0 Y.f1 Y.f2 = 0
        · go_wp2_with fail
          go_roundg (gk - 1)
          case measure => have := HI.out; omega
          case rel => exact ⟨i + 1, (congrArg (Value.int .i64) ((wrap_in' ((i : Int) + 1) (by omega) (by have := HL.out; omega)).trans (by omega))), ⟨by have := HI.out; omega, by have := HI.out; omega, by have h3 := HI.out.2.2; rw [HS.out, if_pos (show ordS X Y = 0 from hz)] at h3; exact h3⟩, HB1⟩
        · have hz1 : (ordV X.f0 X.f1 X.f2 Y.f0 Y.f1 Y.f2 != 0) = true := bne_iff_ne.mpr hz
          have hr : ordV X.f0 X.f1 X.f2 Y.f0 Y.f1 Y.f2 = r := by have h3 := HI.out.2.2; rw [HS.out, if_neg (show ¬ ordS X Y = 0 from hz)] at h3; exact h3
          go_wp2_with fail
          go_ret
          exact ⟨rfl, HB1.out⟩
      · have hr : 1 = r := by have h3 := HI.out.2.2; rw [ordL_more l0 l1 i h0 h1] at h3; exact h3
        have d1 : decide (l1.length ≤ i) = true := decide_eq_true (by omega)
        have p0 : 0 ≤ (i : Int) := by omega
        have q0 : (i : Int) < (l0.length : Int) := by omega
        obtain ⟨ad0, e0, x0, x1, x2⟩ := at_T33 HR0.out i p0 q0
        cases e0
        replace x0 := pw_cell_below HB.out x0
        replace x1 := pw_cell_below HB.out x1
        replace x2 := pw_cell_below HB.out x2
        simp only [Int.toNat_natCast] at x0 x1 x2
        generalize hx : rd_T33 l0 i = X at *
        go_wp2_with fail
        go_ret
        exact ⟨congrArg (fun z => Ending.returned (.int .i64 z)) hr, by repeat (first | exact HB.out | apply below_alloc)⟩
    · have d0 : decide ((i : Int) < (l0.length : Int)) = false := decide_eq_false (by omega)
      have hi : i = l0.length := by have := HI.out; omega
      have h3 := HI.out.2.2
      by_cases h1 : l0.length < l1.length
      · rw [ordL_less l0 l1 i h0 (by omega)] at h3
        go_wp2_with fail
        go_ret
        exact ⟨congrArg (fun z => Ending.returned (.int .i64 z)) h3, HB.out⟩
      · rw [ordL_end l0 l1 i h0 (by omega)] at h3
        go_wp2_with fail
        go_ret
        exact ⟨congrArg (fun z => Ending.returned (.int .i64 z)) h3, HB.out⟩

def code_Order.f (l0 l1 : List S33) : Option Int := if (l0.length : Int) < 9223372036854775807 then some (cmpI (ordL l0 l1) 0) else none
set_option maxHeartbeats 4000000 in
set_option maxRecDepth 100000 in
theorem code_Order.calls (A0 : Option Addr) (c0 : Nat) (l0 : List (S33)) (A1 : Option Addr) (c1 : Nat) (l1 : List (S33)) (r : Int) (w : World) (hr0 : Kd.C k33 w A0 l0.length l0) (hc0 : l0.length ≤ c0) (hr1 : Kd.C k33 w A1 l1.length l1) (hc1 : l1.length ≤ c1) (h : code_Order.f l0 l1 = some r) :
    Calls Try.prog 47 #[.slice A0 l0.length c0, .slice A1 l1.length c1] w fun e w' => e = .returned (.int .i64 r) ∧ Below w.heap.size w w' := by
  unfold code_Order.f at h
  split at h
  case isFalse => exact absurd h (by simp)
  rename_i hl
  have hq : cmpI (ordL l0 l1) 0 = r := Option.some.inj h
  clear h
  have C := Aside0.mk (compare_func A0 c0 l0 A1 c1 l1 w hr0 hc0 hr1 hc1 hl _ rfl)
  have D := Aside0.mk (compare_int (ordL l0 l1) 0)
  have HB := Aside0.mk (Below.refl w.heap.size w)
  clear hr0 hc0 hr1 hc1 hl
  go_enter Try.func47, Try.ntmps47
  go_wp2_with fail
  refine C.out.mono ?_
  rintro e w1 ⟨rfl, hb⟩
  have HB1 := Aside0.mk (Below.trans HB.out hb)
  clear hb
  go_wp2_with fail
  refine (cmp_Compare_int.calls _ _ _ _ D.out).mono ?_
  rintro e w2 ⟨rfl, hb⟩
  have HB2 := Aside0.mk (below_step HB1.out (Drawn0.below hb))
  clear hb
  go_wp2_with fail
  go_ret
  exact ⟨rfl, HB2.out⟩
end Go.Proofs.Ythghflgmeepnlaa.Pa
