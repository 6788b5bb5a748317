/- What RowsOrder hangs on, part 4 of 4: our texts put together by trim.py, without what the proof does not need. -/
import Derived.Test.YthghflgmeepnlaaZO1
import Derived.Test.YthghflgmeepnlaaZO3
import Derived.Test.YthghflgmeepnlaaZO2
import Derived.Laws.EntriesVeiled
import Derived.Lib.SliceRun
section
namespace Go.Proofs.Ythghflgmeepnlaa.Pa
open Go.RowKit Go.Proofs.YthghflgmeepnlaaW.PrintWords Go.Proofs.YthghflgmeepnlaaW.PrintLast Go.Proofs.YthghflgmeepnlaaW.PrintMore
attribute [local go_sem] max2_int max_two
set_option linter.unusedVariables false
set_option linter.unusedSimpArgs false
mutual
def cordonref11_Order.l0 : Nat → List (S33) → List (S33) → List Bool → Int → Option (Int)
  | 0, _, _, _, _ => none
  | k + 1, x0, x1, x2, x7 => if x7 < (x0.length : Int) then (cordonref11_Order.j1 k x0 x1 x2 x7 true) else (cordonref11_Order.j1 k x0 x1 x2 x7 (decide (x7 < (x1.length : Int))))
def cordonref11_Order.j1 : Nat → List (S33) → List (S33) → List Bool → Int → Bool → Option (Int)
  | 0, _, _, _, _, _ => none
  | k + 1, x0, x1, x2, x7, x18 => if x18 = true then (if x7 ≥ (x0.length : Int) then (cordonref11_Order.j2 k x0 x1 x2 x7 (-1)) else (if x7 ≥ (x1.length : Int) then (cordonref11_Order.j2 k x0 x1 x2 x7 1) else (if 0 ≤ x7 then (if x7 < (x0.length : Int) then (if x7 < (x1.length : Int) then ((cordonref01_Order.f k ((rd_T33 x0 x7).f0) ((rd_T33 x0 x7).f1) ((rd_T33 x0 x7).f2) ((rd_T33 x1 x7).f0) ((rd_T33 x1 x7).f1) ((rd_T33 x1 x7).f2)).bind fun t621 => (cordonref11_Order.j2 k x0 x1 x2 x7 t621)) else (none)) else (none)) else (none)))) else (some 0)
def cordonref11_Order.j2 : Nat → List (S33) → List (S33) → List Bool → Int → Int → Option (Int)
  | 0, _, _, _, _, _ => none
  | k + 1, x0, x1, x2, x7, x8 => if x7 < (x2.length : Int) then (if 0 ≤ x7 then (cordonref11_Order.j3 k x0 x1 x2 x7 x8 (rdOf false x2 x7)) else (none)) else (cordonref11_Order.j3 k x0 x1 x2 x7 x8 false)
def cordonref11_Order.j3 : Nat → List (S33) → List (S33) → List Bool → Int → Int → Bool → Option (Int)
  | 0, _, _, _, _, _, _ => none
  | k + 1, x0, x1, x2, x7, x8, x47 => if x47 = true then (if (wrap64 (-x8)) = 0 then (cordonref11_Order.l0 k x0 x1 x2 (wrap64 (x7 + 1))) else (some (wrap64 (-x8)))) else (if x8 = 0 then (cordonref11_Order.l0 k x0 x1 x2 (wrap64 (x7 + 1))) else (some x8))
end
def cordonref11_Order.f (k : Nat) (l0 : List (S33)) (l1 : List (S33)) (l2 : List Bool) : Option (Int) := cordonref11_Order.l0 k l0 l1 l2 0
def cordonref11_Order.T9 : Bool × List (List Nat × List Nat) := (true, [([], []), ([], []), ([0, 1], [0, 1]), ([2], [2]), ([], []), ([], []), ([4, 5], [4, 5]), ([6], [6]), ([3, 7], [3, 7]), ([8, 8, 0, 1, 2, 3, 4, 5, 6, 7, 8], [8])])
def cordonref11_Order.B9 : List Nat := [0, 0, 3, 7, 0, 0, 48, 112, 255, 511]
theorem cordonref11_Order.tab9 : rtab .any (opsOf Try.f59 9) = cordonref11_Order.T9 := by kernel_rfl
theorem cordonref11_Order.bits9 : waitsOk cordonref11_Order.T9.2 cordonref11_Order.B9 = true := by kernel_rfl
set_option maxHeartbeats 8000000 in
set_option maxRecDepth 100000 in
theorem cordonref11_Order.calls (k : Nat) (A0 : Option Addr) (c0 : Nat) (l0 : List (S33)) (A1 : Option Addr) (c1 : Nat) (l1 : List (S33)) (A2 : Option Addr) (c2 : Nat) (l2 : List Bool) (r : Int) (w : World) (hr0 : Kd.C k33 w A0 l0.length l0) (hc0 : l0.length ≤ c0) (hr1 : Kd.C k33 w A1 l1.length l1) (hc1 : l1.length ≤ c1) (hr2 : Kd.C Kd.bool w A2 l2.length l2) (hc2 : l2.length ≤ c2) (h : cordonref11_Order.f k l0 l1 l2 = some r) :
    Calls Try.prog 59 #[.slice A0 l0.length c0, .slice A1 l1.length c1, .slice A2 l2.length c2] w fun e w' => e = .returned (.int .i64 r) ∧ Below w.heap.size w w' := by
  have hu33 := Try.underlying33
  have HR0 := Aside0.mk hr0
  have HC0 := Aside0.mk hc0
  clear hr0 hc0
  have HR1 := Aside0.mk hr1
  have HC1 := Aside0.mk hc1
  clear hr1 hc1
  have HR2 := Aside0.mk hr2
  have HC2 := Aside0.mk hc2
  clear hr2 hc2
  have HB := Aside0.mk (Below.refl w.heap.size w)
  have H : (cordonref11_Order.l0 k l0 l1 l2 0) = some r := h
  clear h
  have H' := Aside0.mk H
  clear H
  go_enter Try.func59, Try.ntmps59
  go_wp2
  go_loopg [7] k (fun kq v7 w' => ∃ (x7_1 : Int), v7 = .int .i64 x7_1 ∧ Aside0 (cordonref11_Order.l0 kq l0 l1 l2 x7_1 = some r) ∧ Aside0 (kq ≤ k) ∧ Aside0 (Below w.heap.size w w'))
  case atStart => exact ⟨(0), (by first | rfl | (simp; done) | (simp [*]; done)), H', ⟨Nat.le_refl _⟩, ⟨by repeat (first | (with_reducible first | exact HB.out | apply below_alloc | apply pw_below_drewN | apply below_drew1) | exact HB.out)⟩⟩
  case round =>
    clear H'
    try clear c1
    try clear c2
    try clear p2
    obtain ⟨x7_1, rfl, HA, HK1, HB⟩ := hrel
    cases gk with
    | zero => exact absurd HA.out (by simp [cordonref11_Order.l0])
    | succ k1 =>
      have H := HA.out
      clear HA
      simp only [cordonref11_Order.l0] at H
      have HC4 := Aside0.mk H
      clear H
      go_upto_region 2 with (fail)
      go_cut [18] (fun v18 wc => ∃ (kq : Nat) (x18_3 : Bool), v18 = .bool x18_3 ∧ Aside0 (cordonref11_Order.j1 kq l0 l1 l2 x7_1 x18_3 = some r) ∧ Aside0 (kq ≤ k1) ∧ Aside0 (Below w.heap.size w wc))
      case first =>
        have H := HC4.out
        clear HC4
        by_cases c5 : x7_1 < (l0.length : Int)
        · rw [if_pos c5] at H
          have c5b0 : decide (x7_1 < (l0.length : Int)) = true := decide_eq_true c5
          clear c5
          (first | rw [c5b0] | (simp only [i64_w, i32_w]; rw [c5b0]) | skip)
          have H' := Aside0.mk H
          clear H
          go_wp2
          go_meet
          case rel => exact ⟨_, (true), (by first | rfl | (simp; done) | (simp [*]; done)), H', ⟨by have := HK1.out; first | omega | exact Nat.le_refl _⟩, ⟨by repeat (first | (with_reducible first | exact HB.out | apply below_alloc | apply pw_below_drewN | apply below_drew1) | exact HB.out)⟩⟩
        · rw [if_neg c5] at H
          have c5b0 : decide (x7_1 < (l0.length : Int)) = false := decide_eq_false c5
          clear c5
          (first | rw [c5b0] | (simp only [i64_w, i32_w]; rw [c5b0]) | skip)
          have H' := Aside0.mk H
          clear H
          go_wp2
          go_meet
          case rel => exact ⟨_, (decide (x7_1 < (l1.length : Int))), (by first | rfl | (simp; done) | (simp [*]; done)), H', ⟨by have := HK1.out; first | omega | exact Nat.le_refl _⟩, ⟨by repeat (first | (with_reducible first | exact HB.out | apply below_alloc | apply pw_below_drewN | apply below_drew1) | exact HB.out)⟩⟩
      case rest =>
        clear HC4
        try clear c1
        try clear c2
        try clear p2
        try clear c5
        try clear c5b0
        try clear p2
        obtain ⟨kq, x18_3, rfl, HA, HJ3, HB⟩ := hcut
        cases kq with
        | zero => exact absurd HA.out (by simp [cordonref11_Order.j1])
        | succ kj3 =>
          have H := HA.out
          clear HA
          simp only [cordonref11_Order.j1] at H
          by_cases c6 : x18_3 = true
          · subst c6
            have H1 : (if x7_1 ≥ (l0.length : Int) then (cordonref11_Order.j2 kj3 l0 l1 l2 x7_1 (-1)) else (if x7_1 ≥ (l1.length : Int) then (cordonref11_Order.j2 kj3 l0 l1 l2 x7_1 1) else (if 0 ≤ x7_1 then (if x7_1 < (l0.length : Int) then (if x7_1 < (l1.length : Int) then ((cordonref01_Order.f kj3 ((rd_T33 l0 x7_1).f0) ((rd_T33 l0 x7_1).f1) ((rd_T33 l0 x7_1).f2) ((rd_T33 l1 x7_1).f0) ((rd_T33 l1 x7_1).f1) ((rd_T33 l1 x7_1).f2)).bind fun t621 => (cordonref11_Order.j2 kj3 l0 l1 l2 x7_1 t621)) else (none)) else (none)) else (none)))) = some r := by rw [if_pos rfl] at H; exact H
            clear H
            have H := H1
            clear H1
            have HC7 := Aside0.mk H
            clear H
            go_upto_if 24 with (fail)
            go_cut [8] (fun v8 wc => ∃ (kq : Nat) (x8_6 : Int), v8 = .int .i64 x8_6 ∧ Aside0 (cordonref11_Order.j2 kq l0 l1 l2 x7_1 x8_6 = some r) ∧ Aside0 (kq ≤ kj3) ∧ Aside0 (Below w.heap.size w wc))
            case first =>
              have H := HC7.out
              clear HC7
              by_cases c8 : x7_1 ≥ (l0.length : Int)
              · rw [if_pos c8] at H
                have c8b0 : decide ((l0.length : Int) ≤ x7_1) = true := decide_eq_true c8
                clear c8
                (first | rw [c8b0] | (simp only [i64_w, i32_w]; rw [c8b0]) | skip)
                have H' := Aside0.mk H
                clear H
                go_wp2
                go_meet
                case rel => exact ⟨_, ((-1)), (by first | rfl | (simp; done) | (simp [*]; done)), H', ⟨by have := HK1.out; have := HJ3.out; first | omega | exact Nat.le_refl _⟩, ⟨by repeat (first | (with_reducible first | exact HB.out | apply below_alloc | apply pw_below_drewN | apply below_drew1) | exact HB.out)⟩⟩
              · rw [if_neg c8] at H
                have c8b0 : decide ((l0.length : Int) ≤ x7_1) = false := decide_eq_false c8
                clear c8
                (first | rw [c8b0] | (simp only [i64_w, i32_w]; rw [c8b0]) | skip)
                by_cases c9 : x7_1 ≥ (l1.length : Int)
                · rw [if_pos c9] at H
                  have c9b0 : decide ((l1.length : Int) ≤ x7_1) = true := decide_eq_true c9
                  clear c9
                  have H' := Aside0.mk H
                  clear H
                  go_wp2
                  go_meet
                  case rel => exact ⟨_, (1), (by first | rfl | (simp; done) | (simp [*]; done)), H', ⟨by have := HK1.out; have := HJ3.out; first | omega | exact Nat.le_refl _⟩, ⟨by repeat (first | (with_reducible first | exact HB.out | apply below_alloc | apply pw_below_drewN | apply below_drew1) | exact HB.out)⟩⟩
                · rw [if_neg c9] at H
                  have c9b0 : decide ((l1.length : Int) ≤ x7_1) = false := decide_eq_false c9
                  clear c9
                  by_cases c10 : 0 ≤ x7_1
                  · rw [if_pos c10] at H
                    have c10b0 : decide (0 ≤ x7_1) = true := decide_eq_true c10
                    clear c10
                    by_cases c11 : x7_1 < (l0.length : Int)
                    · rw [if_pos c11] at H
                      have c11b0 : decide (x7_1 < (l0.length : Int)) = true := decide_eq_true c11
                      clear c11
                      by_cases c12 : x7_1 < (l1.length : Int)
                      · rw [if_pos c12] at H
                        have c12b0 : decide (x7_1 < (l1.length : Int)) = true := decide_eq_true c12
                        clear c12
                        replace H := Option.bind_eq_some_iff.mp H
                        obtain ⟨t621, A130, H⟩ := H
                        replace H : (cordonref11_Order.j2 kj3 l0 l1 l2 x7_1 t621) = some r := H
                        have A13 := Aside0.mk A130
                        clear A130
                        have H' := Aside0.mk H
                        clear H
                        try go_wp2
                        have n0_ := Aside0.mk (below_drew1 HB.out)
                        clear HB
                        have HB := n0_
                        clear n0_
                        have p619 : 0 ≤ (x7_1 : Int) := of_decide_eq_true (by first | (with_reducible assumption) | assumption)
                        have q619 : x7_1 < (l0.length : Int) := of_decide_eq_true (by first | (with_reducible assumption) | assumption)
                        obtain ⟨ad619, e619, hx619_0, hx619_1, hx619_2⟩ := at_T33 HR0.out x7_1 p619 q619
                        have hw619_2 := hx619_2
                        have hw619_1 := hx619_1
                        have hw619_0 := hx619_0
                        cases e619
                        replace hx619_0 := (HB.out.cell (World.block_lt_of_cell? w _ hx619_0)).trans hx619_0
                        replace hx619_1 := (HB.out.cell (World.block_lt_of_cell? w _ hx619_1)).trans hx619_1
                        replace hx619_2 := (HB.out.cell (World.block_lt_of_cell? w _ hx619_2)).trans hx619_2
                        replace p619 := eq_true p619
                        replace q619 := eq_true q619
                        have p620 : 0 ≤ (x7_1 : Int) := of_decide_eq_true (by first | (with_reducible assumption) | assumption)
                        have q620 : x7_1 < (l1.length : Int) := of_decide_eq_true (by first | (with_reducible assumption) | assumption)
                        obtain ⟨ad620, e620, hx620_0, hx620_1, hx620_2⟩ := at_T33 HR1.out x7_1 p620 q620
                        have hw620_2 := hx620_2
                        have hw620_1 := hx620_1
                        have hw620_0 := hx620_0
                        cases e620
                        replace hx620_0 := (HB.out.cell (World.block_lt_of_cell? w _ hx620_0)).trans hx620_0
                        replace hx620_1 := (HB.out.cell (World.block_lt_of_cell? w _ hx620_1)).trans hx620_1
                        replace hx620_2 := (HB.out.cell (World.block_lt_of_cell? w _ hx620_2)).trans hx620_2
                        replace p620 := eq_true p620
                        replace q620 := eq_true q620
                        refine start_ (n := 10) (S := fun w' => w'.cell? (ad619.add ((x7_1).toNat * 3)) = some (.int .i64 ((rd_T33 l0 x7_1).f0)) ∧ w'.cell? ⟨(ad619.add ((x7_1).toNat * 3)).block, (ad619.add ((x7_1).toNat * 3)).off + 1, none⟩ = some (.int .i64 ((rd_T33 l0 x7_1).f1)) ∧ w'.cell? ⟨(ad619.add ((x7_1).toNat * 3)).block, (ad619.add ((x7_1).toNat * 3)).off + 2, none⟩ = some (.string ((rd_T33 l0 x7_1).f2)) ∧ w'.cell? (ad620.add ((x7_1).toNat * 3)) = some (.int .i64 ((rd_T33 l1 x7_1).f0)) ∧ w'.cell? ⟨(ad620.add ((x7_1).toNat * 3)).block, (ad620.add ((x7_1).toNat * 3)).off + 1, none⟩ = some (.int .i64 ((rd_T33 l1 x7_1).f1)) ∧ w'.cell? ⟨(ad620.add ((x7_1).toNat * 3)).block, (ad620.add ((x7_1).toNat * 3)).off + 2, none⟩ = some (.string ((rd_T33 l1 x7_1).f2))) (ds := []) #[false, false, false, false, false, false, false, false, false, false] (by kernel_rfl) rfl rfl ⟨((HB.out.cell (World.block_lt_of_cell? w _ hw619_0)).trans hw619_0), ((HB.out.cell (World.block_lt_of_cell? w _ hw619_1)).trans hw619_1), ((HB.out.cell (World.block_lt_of_cell? w _ hw619_2)).trans hw619_2), ((HB.out.cell (World.block_lt_of_cell? w _ hw620_0)).trans hw620_0), ((HB.out.cell (World.block_lt_of_cell? w _ hw620_1)).trans hw620_1), ((HB.out.cell (World.block_lt_of_cell? w _ hw620_2)).trans hw620_2)⟩ (fun hHeld => ?_); refine with_tabW cordonref11_Order.tab9 cordonref11_Order.bits9 (fun HT_ HW_ => ?_)
                        generalize wc.drew = w14 at HB hx619_0 hx619_1 hx619_2 hx620_0 hx620_1 hx620_2 hHeld ⊢
                        refine pure_ (i := 0) (N := some 29) (v := ?_) (a' := ?_) #[true, false, false, false, false, false, false, false, false, false] rfl rfl (any_of HT_.out (by kernel_rfl)) (fun _ _ _ h => h) (Or.inl ⟨by rfl, ?_⟩) ?_ ?_
                        rotate_left
                        · intro w'
                          go_simp
                          with_reducible rfl
                        rotate_left
                        · simp only [Act.put, List.setIfInBounds_toArray, List.set_cons_zero, List.set_cons_succ, i64_w, i32_w]
                          rfl
                        refine pure_ (i := 1) (N := some 30) (v := ?_) (a' := ?_) #[true, true, false, false, false, false, false, false, false, false] rfl rfl (any_of HT_.out (by kernel_rfl)) (fun _ _ _ h => h) (Or.inl ⟨by rfl, ?_⟩) ?_ ?_
                        rotate_left
                        · intro w'
                          go_simp
                          with_reducible rfl
                        rotate_left
                        · simp only [Act.put, List.setIfInBounds_toArray, List.set_cons_zero, List.set_cons_succ, i64_w, i32_w]
                          rfl
                        refine pure_ (i := 2) (N := some 31) (v := ?_) (a' := ?_) #[true, true, true, false, false, false, false, false, false, false] rfl rfl (any_of HT_.out (by kernel_rfl)) (fun _ _ _ h => h) (Or.inl ⟨by rfl, ?_⟩) ?_ ?_
                        rotate_left
                        · intro w'
                          go_simp
                          with_reducible rfl
                        rotate_left
                        · simp only [Act.put, List.setIfInBounds_toArray, List.set_cons_zero, List.set_cons_succ, i64_w, i32_w]
                          rfl
                        refine pure_ (i := 4) (N := some 33) (v := ?_) (a' := ?_) #[true, true, true, false, true, false, false, false, false, false] rfl rfl (any_of HT_.out (by kernel_rfl)) (fun _ _ _ h => h) (Or.inl ⟨by rfl, ?_⟩) ?_ ?_
                        rotate_left
                        · intro w'
                          go_simp
                          with_reducible rfl
                        rotate_left
                        · simp only [Act.put, List.setIfInBounds_toArray, List.set_cons_zero, List.set_cons_succ, i64_w, i32_w]
                          rfl
                        refine pure_ (i := 5) (N := some 34) (v := ?_) (a' := ?_) #[true, true, true, false, true, true, false, false, false, false] rfl rfl (any_of HT_.out (by kernel_rfl)) (fun _ _ _ h => h) (Or.inl ⟨by rfl, ?_⟩) ?_ ?_
                        rotate_left
                        · intro w'
                          go_simp
                          with_reducible rfl
                        rotate_left
                        · simp only [Act.put, List.setIfInBounds_toArray, List.set_cons_zero, List.set_cons_succ, i64_w, i32_w]
                          rfl
                        refine pure_ (i := 6) (N := some 35) (v := ?_) (a' := ?_) #[true, true, true, false, true, true, true, false, false, false] rfl rfl (any_of HT_.out (by kernel_rfl)) (fun _ _ _ h => h) (Or.inl ⟨by rfl, ?_⟩) ?_ ?_
                        rotate_left
                        · intro w'
                          go_simp
                          with_reducible rfl
                        rotate_left
                        · simp only [Act.put, List.setIfInBounds_toArray, List.set_cons_zero, List.set_cons_succ, i64_w, i32_w]
                          rfl
                        refine take_ (i := 3) (N := some 32) (v := ?_) (a' := ?_) #[true, true, true, true, true, true, true, false, false, false] rfl rfl (take_ofW HT_.out HW_.out (by kernel_rfl)) (fun _ _ _ h => h) (Or.inl ⟨by rfl, ?_⟩) hHeld ?_ ?_
                        rotate_left
                        · rintro w' ⟨s0, s1, s2, s3, s4, s5⟩
                          go_simp
                          with_reducible rfl
                        rotate_left
                        · simp only [Act.put, List.setIfInBounds_toArray, List.set_cons_zero, List.set_cons_succ, i64_w, i32_w]
                          rfl
                        refine take_ (i := 7) (N := some 36) (v := ?_) (a' := ?_) #[true, true, true, true, true, true, true, true, false, false] rfl rfl (take_ofW HT_.out HW_.out (by kernel_rfl)) (fun _ _ _ h => h) (Or.inl ⟨by rfl, ?_⟩) hHeld ?_ ?_
                        rotate_left
                        · rintro w' ⟨s0, s1, s2, s3, s4, s5⟩
                          go_simp
                          with_reducible rfl
                        rotate_left
                        · simp only [Act.put, List.setIfInBounds_toArray, List.set_cons_zero, List.set_cons_succ, i64_w, i32_w]
                          rfl
                        refine one_ (i := 8) (N := some 37) #[true, true, true, true, true, true, true, true, true, false] rfl rfl (one_of HT_.out (by kernel_rfl)) (by decide) (fun K hK => ?_)
                        refine goes_ Try.func85 (by kernel_rfl) rfl #[.agg #[.int .i64 ((rd_T33 l0 x7_1).f0), .int .i64 ((rd_T33 l0 x7_1).f1), .string ((rd_T33 l0 x7_1).f2)], .agg #[.int .i64 ((rd_T33 l1 x7_1).f0), .int .i64 ((rd_T33 l1 x7_1).f1), .string ((rd_T33 l1 x7_1).f2)]] (by rfl) rfl rfl (by (try simp only [List.map_toArray, List.map_cons, List.map_nil]); first | done | rfl | (simp only [List.length_drop, List.length_take]; rfl)) ?_
                        with_reducible refine (cordonref01_Order.calls kj3 ((rd_T33 l0 x7_1).f0) ((rd_T33 l0 x7_1).f1) ((rd_T33 l0 x7_1).f2) ((rd_T33 l1 x7_1).f0) ((rd_T33 l1 x7_1).f1) ((rd_T33 l1 x7_1).f2) t621 _ A13.out).mono ?_
                        rintro e w15 ⟨rfl, hb⟩
                        refine ⟨_, rfl, ?_⟩
                        have n0_ := Aside0.mk (below_step (by repeat (first | (with_reducible first | exact HB.out | apply below_alloc | apply pw_below_drewN | apply below_drew1) | exact HB.out)) hb)
                        clear HB
                        have HB := n0_
                        clear n0_
                        (try clear hb)
                        (try clear hb2)
                        (try clear hk)
                        (try clear hi)
                        refine hK.out _ _ ⟨((HB.out.cell (World.block_lt_of_cell? w _ hw619_0)).trans hw619_0), ((HB.out.cell (World.block_lt_of_cell? w _ hw619_1)).trans hw619_1), ((HB.out.cell (World.block_lt_of_cell? w _ hw619_2)).trans hw619_2), ((HB.out.cell (World.block_lt_of_cell? w _ hw620_0)).trans hw620_0), ((HB.out.cell (World.block_lt_of_cell? w _ hw620_1)).trans hw620_1), ((HB.out.cell (World.block_lt_of_cell? w _ hw620_2)).trans hw620_2)⟩ (fun hHeld => ?_)
                        clear hK K
                        refine norm_ (a' := ?_) ?_ ?_
                        rotate_left
                        · show Act.put _ (some 37) _ = _
                          simp only [Act.put, List.setIfInBounds_toArray, List.set_cons_zero, List.set_cons_succ, i64_w, i32_w]
                          rfl
                        refine pure_ (i := 9) (N := some 8) (v := ?_) (a' := ?_) #[true, true, true, true, true, true, true, true, true, true] rfl rfl (any_of HT_.out (by kernel_rfl)) (fun _ _ _ h => h) (Or.inl ⟨by rfl, ?_⟩) ?_ ?_
                        rotate_left
                        · intro w'
                          go_simp
                          with_reducible rfl
                        rotate_left
                        · simp only [Act.put, List.setIfInBounds_toArray, List.set_cons_zero, List.set_cons_succ, i64_w, i32_w]
                          rfl
                        refine done_ (done_of HT_.out (by kernel_rfl)) ?_
                        try go_wp2
                        go_meet
                        case rel => exact ⟨_, (t621), (by first | rfl | (simp; done) | (simp [*]; done)), H', ⟨by have := HK1.out; have := HJ3.out; first | omega | exact Nat.le_refl _⟩, ⟨by repeat (first | (with_reducible first | exact HB.out | apply below_alloc | apply pw_below_drewN | apply below_drew1) | exact HB.out)⟩⟩
                      · rw [if_neg c12] at H
                        exact absurd H (by simp)
                    · rw [if_neg c11] at H
                      exact absurd H (by simp)
                  · rw [if_neg c10] at H
                    exact absurd H (by simp)
            case rest =>
              clear HC7
              try clear c1
              try clear c2
              try clear p2
              try clear c5
              try clear c5b0
              try clear c6
              try clear p6
              try clear q6
              try clear hx6
              try clear c8
              try clear c8b0
              try clear c9
              try clear c9b0
              try clear c10
              try clear c10b0
              try clear c11
              try clear c11b0
              try clear c12
              try clear c12b0
              try clear hx619_0
              try clear hx619_1
              try clear hx619_2
              try clear hx620_0
              try clear hx620_1
              try clear hx620_2
              try clear p2
              try clear p619
              try clear p620
              try clear q619
              try clear q620
              obtain ⟨kq, x8_6, rfl, HA, HJ6, HB⟩ := hcut
              cases kq with
              | zero => exact absurd HA.out (by simp [cordonref11_Order.j2])
              | succ kj6 =>
                have H := HA.out
                clear HA
                simp only [cordonref11_Order.j2] at H
                have HC16 := Aside0.mk H
                clear H
                go_upto_region 10 with (fail)
                go_cut [47] (fun v47 wc => ∃ (kq : Nat) (x47_15 : Bool), v47 = .bool x47_15 ∧ Aside0 (cordonref11_Order.j3 kq l0 l1 l2 x7_1 x8_6 x47_15 = some r) ∧ Aside0 (kq ≤ kj6) ∧ Aside0 (Below w.heap.size w wc))
                case first =>
                  have H := HC16.out
                  clear HC16
                  by_cases c17 : x7_1 < (l2.length : Int)
                  · rw [if_pos c17] at H
                    have c17b0 : decide (x7_1 < (l2.length : Int)) = true := decide_eq_true c17
                    clear c17
                    (first | rw [c17b0] | (simp only [i64_w, i32_w]; rw [c17b0]) | skip)
                    by_cases c18 : 0 ≤ x7_1
                    · rw [if_pos c18] at H
                      have c18b0 : decide (0 ≤ x7_1) = true := decide_eq_true c18
                      clear c18
                      have H' := Aside0.mk H
                      clear H
                      have p622 : 0 ≤ (x7_1 : Int) := of_decide_eq_true (by first | (with_reducible assumption) | assumption)
                      have q622 : x7_1 < (l2.length : Int) := of_decide_eq_true (by first | (with_reducible assumption) | assumption)
                      obtain ⟨ad622, e622, hx622_0⟩ := Kd.at_bool HR2.out x7_1 p622 q622
                      cases e622
                      replace hx622_0 := (HB.out.cell (World.block_lt_of_cell? w _ hx622_0)).trans hx622_0
                      replace p622 := eq_true p622
                      replace q622 := eq_true q622
                      go_wp2
                      go_meet
                      case rel => exact ⟨_, (rdOf false l2 x7_1), (by first | rfl | (simp; done) | (simp [*]; done)), H', ⟨by have := HK1.out; have := HJ3.out; have := HJ6.out; first | omega | exact Nat.le_refl _⟩, ⟨by repeat (first | (with_reducible first | exact HB.out | apply below_alloc | apply pw_below_drewN | apply below_drew1) | exact HB.out)⟩⟩
                    · rw [if_neg c18] at H
                      exact absurd H (by simp)
                  · rw [if_neg c17] at H
                    have c17b0 : decide (x7_1 < (l2.length : Int)) = false := decide_eq_false c17
                    clear c17
                    (first | rw [c17b0] | (simp only [i64_w, i32_w]; rw [c17b0]) | skip)
                    have H' := Aside0.mk H
                    clear H
                    go_wp2
                    go_meet
                    case rel => exact ⟨_, (false), (by first | rfl | (simp; done) | (simp [*]; done)), H', ⟨by have := HK1.out; have := HJ3.out; have := HJ6.out; first | omega | exact Nat.le_refl _⟩, ⟨by repeat (first | (with_reducible first | exact HB.out | apply below_alloc | apply pw_below_drewN | apply below_drew1) | exact HB.out)⟩⟩
                case rest =>
                  clear HC16
                  try clear c1
                  try clear c2
                  try clear p2
                  try clear c5
                  try clear c5b0
                  try clear c6
                  try clear p6
                  try clear q6
                  try clear hx6
                  try clear c8
                  try clear c8b0
                  try clear c9
                  try clear c9b0
                  try clear c10
                  try clear c10b0
                  try clear c11
                  try clear c11b0
                  try clear c12
                  try clear c12b0
                  try clear c17
                  try clear c17b0
                  try clear c18
                  try clear c18b0
                  try clear hx619_0
                  try clear hx619_1
                  try clear hx619_2
                  try clear hx620_0
                  try clear hx620_1
                  try clear hx620_2
                  try clear hx622_0
                  try clear p2
                  try clear p6
                  try clear p619
                  try clear p620
                  try clear p622
                  try clear q6
                  try clear q619
                  try clear q620
                  try clear q622
                  obtain ⟨kq, x47_15, rfl, HA, HJ15, HB⟩ := hcut
                  cases kq with
                  | zero => exact absurd HA.out (by simp [cordonref11_Order.j3])
                  | succ kj15 =>
                    have H := HA.out
                    clear HA
                    simp only [cordonref11_Order.j3] at H
                    by_cases c19 : x47_15 = true
                    · subst c19
                      have H1 : (if (wrap64 (-x8_6)) = 0 then (cordonref11_Order.l0 kj15 l0 l1 l2 (wrap64 (x7_1 + 1))) else (some (wrap64 (-x8_6)))) = some r := by rw [if_pos rfl] at H; exact H
                      clear H
                      have H := H1
                      clear H1
                      by_cases c20 : (wrap64 (-x8_6)) = 0
                      · rw [if_pos c20] at H
                        have c20b0 : ((wrap64 (-x8_6)) == 0) = true := beq_iff_eq.mpr c20
                        have c20b1 : ((wrap64 (-x8_6)) != 0) = false := bne_eq_false_iff_eq.mpr c20
                        clear c20
                        have H' := Aside0.mk H
                        clear H
                        go_wp2
                        go_roundg kj15
                        case measure => have := HK1.out; have := HJ3.out; have := HJ6.out; have := HJ15.out; omega
                        case rel => exact ⟨(wrap64 (x7_1 + 1)), (by first | rfl | (simp; done) | (simp [*]; done)), H', ⟨by have := HK1.out; have := HJ3.out; have := HJ6.out; have := HJ15.out; omega⟩, ⟨by repeat (first | (with_reducible first | exact HB.out | apply below_alloc | apply pw_below_drewN | apply below_drew1) | exact HB.out)⟩⟩
                      · rw [if_neg c20] at H
                        have c20b0 : ((wrap64 (-x8_6)) == 0) = false := beq_eq_false_iff_ne.mpr c20
                        have c20b1 : ((wrap64 (-x8_6)) != 0) = true := bne_iff_ne.mpr c20
                        obtain rfl := Option.some.inj H
                        go_wp2
                        go_ret
                        exact ⟨by first | rfl | (simp [errW_none, errW_some] <;> rfl) | (simp [*, errW_none, errW_some] <;> rfl), by repeat (first | (with_reducible first | exact HB.out | apply below_alloc | apply pw_below_drewN | apply below_drew1) | exact HB.out)⟩
                    · replace c19 := Bool.eq_false_iff.mpr c19
                      subst c19
                      have H1 : (if x8_6 = 0 then (cordonref11_Order.l0 kj15 l0 l1 l2 (wrap64 (x7_1 + 1))) else (some x8_6)) = some r := by rw [if_neg (show ¬ (false = true) by decide)] at H; exact H
                      clear H
                      have H := H1
                      clear H1
                      by_cases c21 : x8_6 = 0
                      · rw [if_pos c21] at H
                        have c21b0 : (x8_6 == 0) = true := beq_iff_eq.mpr c21
                        have c21b1 : (x8_6 != 0) = false := bne_eq_false_iff_eq.mpr c21
                        clear c21
                        have H' := Aside0.mk H
                        clear H
                        go_wp2
                        go_roundg kj15
                        case measure => have := HK1.out; have := HJ3.out; have := HJ6.out; have := HJ15.out; omega
                        case rel => exact ⟨(wrap64 (x7_1 + 1)), (by first | rfl | (simp; done) | (simp [*]; done)), H', ⟨by have := HK1.out; have := HJ3.out; have := HJ6.out; have := HJ15.out; omega⟩, ⟨by repeat (first | (with_reducible first | exact HB.out | apply below_alloc | apply pw_below_drewN | apply below_drew1) | exact HB.out)⟩⟩
                      · rw [if_neg c21] at H
                        have c21b0 : (x8_6 == 0) = false := beq_eq_false_iff_ne.mpr c21
                        have c21b1 : (x8_6 != 0) = true := bne_iff_ne.mpr c21
                        obtain rfl := Option.some.inj H
                        go_wp2
                        go_ret
                        exact ⟨by first | rfl | (simp [errW_none, errW_some] <;> rfl) | (simp [*, errW_none, errW_some] <;> rfl), by repeat (first | (with_reducible first | exact HB.out | apply below_alloc | apply pw_below_drewN | apply below_drew1) | exact HB.out)⟩
          · replace c6 := Bool.eq_false_iff.mpr c6
            subst c6
            have H1 : (some 0) = some r := by rw [if_neg (show ¬ (false = true) by decide)] at H; exact H
            clear H
            have H := H1
            clear H1
            obtain rfl := Option.some.inj H
            go_wp2
            go_ret
            exact ⟨by first | rfl | (simp [errW_none, errW_some] <;> rfl) | (simp [*, errW_none, errW_some] <;> rfl), by repeat (first | (with_reducible first | exact HB.out | apply below_alloc | apply pw_below_drewN | apply below_drew1) | exact HB.out)⟩
def cordonref11_key.f (l0 : List (List (S33))) (a1 : Int) : Option ((List (S33))) := if a1 < (l0.length : Int) then (if 0 ≤ a1 then (some (rd_L4 l0 a1)) else (none)) else (some ([] : List (S33)))
end Go.Proofs.Ythghflgmeepnlaa.Pa
end
section
namespace Go.Proofs.Ythghflgmeepnlaa.Pa
open Go.RowKit Go.Proofs.YthghflgmeepnlaaW.PrintWords Go.Proofs.YthghflgmeepnlaaW.PrintLast Go.Proofs.YthghflgmeepnlaaW.PrintMore
set_option linter.unusedVariables false
set_option linter.unusedSimpArgs false
theorem rorder_tail (x0 x1 : List S33) (x2 : List Bool) (i : Nat) (n : Int) (hn : n = 0 ∨ n = 1 ∨ n = -1) (hl : x2.length ≤ maxLen) (k : Nat) :
    cordonref11_Order.j2 (k + 2) x0 x1 x2 (i : Int) n = if n = 0 then cordonref11_Order.l0 k x0 x1 x2 (wrap64 ((i : Int) + 1)) else some (sgD (x2.drop i) n) := by
  rw [cordonref11_Order.j2]
  have hw : wrap64 (-n) = -n := by unfold wrap64; omega
  by_cases h : (i : Int) < (x2.length : Int)
  · rw [if_pos h, if_pos (by omega), cordonref11_Order.j3]
    have hi : i < x2.length := by omega
    have e : rdOf false x2 (i : Int) = (x2.drop i).headD false := by
      unfold rdOf
      rw [List.drop_eq_getElem_cons hi]
      simp [List.getD_eq_getElem?_getD, List.getElem?_eq_getElem hi]
    rw [e]
    unfold sgD
    by_cases b : (x2.drop i).headD false = true
    · rw [if_pos b, if_pos b, hw]
      by_cases n0 : n = 0
      · rw [if_pos (by omega), if_pos n0]
      · rw [if_neg (by omega), if_neg n0]
    · rw [if_neg b, if_neg b]
  · rw [if_neg h, cordonref11_Order.j3, if_neg (by simp), List.drop_eq_nil_of_le (by omega)]
    rfl
theorem rorder_l0 (x0 x1 : List S33) (x2 : List Bool) (h0 : x0.length < 1000000000) (h1 : x1.length < 1000000000) (hl : x2.length ≤ maxLen)
    (hro : ∀ (i k : Nat), i < x0.length → i < x1.length → cordonref01_Order.f (k + 2202) (rd_T33 x0 (i : Int)).f0 (rd_T33 x0 (i : Int)).f1 (rd_T33 x0 (i : Int)).f2 (rd_T33 x1 (i : Int)).f0 (rd_T33 x1 (i : Int)).f1 (rd_T33 x1 (i : Int)).f2 = some (ordS (rd_T33 x0 (i : Int)) (rd_T33 x1 (i : Int)))) :
    ∀ (d i k : Nat), x0.length ≤ i + d → x1.length ≤ i + d → (i + d = x0.length ∨ i + d = x1.length) → cordonref11_Order.l0 (k + 4 * d + 2210) x0 x1 x2 (i : Int) = some (ordD (x0.drop i) (x1.drop i) (x2.drop i)) := by
  intro d
  induction d with
  | zero =>
    intro i k a b c
    rw [show k + 4 * 0 + 2210 = (k + 2208) + 1 + 1 by omega, cordonref11_Order.l0, if_neg (by omega), cordonref11_Order.j1, if_neg (by simp; omega), List.drop_eq_nil_of_le (by omega), List.drop_eq_nil_of_le (by omega)]
    rfl
  | succ d ih =>
    intro i k a b c
    have fl : cordonref11_Order.l0 (k + 4 * (d + 1) + 2210) x0 x1 x2 (i : Int) = cordonref11_Order.j1 (k + 4 * d + 2212 + 1) x0 x1 x2 (i : Int) true := by
      rw [show k + 4 * (d + 1) + 2210 = (k + 4 * d + 2212 + 1) + 1 by omega, cordonref11_Order.l0]
      by_cases q : (i : Int) < (x0.length : Int)
      · rw [if_pos q]
      · rw [if_neg q, decide_eq_true (show (i : Int) < (x1.length : Int) by omega)]
    have hw : wrap64 ((i : Int) + 1) = ((i + 1 : Nat) : Int) := by unfold wrap64; omega
    rw [fl, cordonref11_Order.j1, if_pos rfl]
    rw [show k + 4 * d + 2212 = (k + 4 * d + 2210) + 2 by omega]
    by_cases c0 : (i : Int) ≥ (x0.length : Int)
    · rw [if_pos c0, rorder_tail x0 x1 x2 i (-1) (by omega) hl, if_neg (by omega)]
      have : i < x1.length := by omega
      rw [show x0.drop i = [] from List.drop_eq_nil_of_le (by omega), List.drop_eq_getElem_cons this]
      rfl
    · rw [if_neg c0]
      have hi0 : i < x0.length := by omega
      by_cases c1 : (i : Int) ≥ (x1.length : Int)
      · rw [if_pos c1, rorder_tail x0 x1 x2 i 1 (by omega) hl, if_neg (by omega)]
        rw [show x1.drop i = [] from List.drop_eq_nil_of_le (by omega), List.drop_eq_getElem_cons hi0]
        rfl
      · have hi1 : i < x1.length := by omega
        rw [if_neg c1, if_pos (by omega), if_pos (by omega), if_pos (by omega), show (k + 4 * d + 2210) + 2 = (k + 4 * d + 10) + 2202 by omega, hro i _ hi0 hi1, Option.bind_some, show (k + 4 * d + 10) + 2202 = (k + 4 * d + 2210) + 2 by omega,
          rorder_tail x0 x1 x2 i _ (by have := lin_val.sg (rd_T33 x0 (i : Int)) (rd_T33 x1 (i : Int)); omega) hl, hw, ih (i + 1) k (by omega) (by omega) (by omega)]
        rw [List.drop_eq_getElem_cons hi0, List.drop_eq_getElem_cons hi1]
        have e0 : rd_T33 x0 (i : Int) = x0[i] := by unfold rd_T33; simp [List.getD_eq_getElem?_getD, List.getElem?_eq_getElem hi0]
        have e1 : rd_T33 x1 (i : Int) = x1[i] := by unfold rd_T33; simp [List.getD_eq_getElem?_getD, List.getElem?_eq_getElem hi1]
        rw [e0, e1]
        show _ = some (if ordS x0[i] x1[i] = 0 then ordD (x0.drop (i + 1)) (x1.drop (i + 1)) (x2.drop i).tail else sgD (x2.drop i) (ordS x0[i] x1[i]))
        rw [List.tail_drop]
        split <;> rfl
end Go.Proofs.Ythghflgmeepnlaa.Pa
end
section
namespace Go.Proofs.Ythghflgmeepnlaa.Pa
open Go.RowKit Go.Proofs.YthghflgmeepnlaaW.PrintWords Go.Proofs.YthghflgmeepnlaaW.PrintLast Go.Proofs.YthghflgmeepnlaaW.PrintMore
set_option linter.unusedVariables false
set_option linter.unusedSimpArgs false
theorem cmpB_cons (a b : UInt8) (x y : List UInt8) : cmpB (a :: x) (b :: y) = if a = b then cmpB x y else if a.toNat < b.toNat then -1 else 1 := by
  have h := bl_cons a b x y
  unfold cmpB
  by_cases e : a = b
  · subst e
    rw [if_pos rfl]
    by_cases h1 : Op.bytesLess x y = true
    · rw [if_pos (h.2 (.inr ⟨rfl, h1⟩)), if_pos h1]
    · rw [if_neg (fun q => by rcases h.1 q with q | q; omega; exact h1 q.2), if_neg h1]
      by_cases h2 : x = y <;> simp [h2]
  · rw [if_neg e]
    by_cases h1 : a.toNat < b.toNat
    · rw [if_pos (h.2 (.inl h1)), if_pos h1]
    · rw [if_neg (fun q => by rcases h.1 q with q | q; omega; exact e q.1), if_neg (by simp [e]), if_neg h1]
theorem cmpB_self (x : List UInt8) : cmpB x x = 0 := by unfold cmpB; rw [less_irrefl]; simp
theorem cmpB_nil_cons (b : UInt8) (y : List UInt8) : cmpB [] (b :: y) = -1 := by unfold cmpB; rw [if_pos (by rfl)]
theorem cmpB_cons_nil (b : UInt8) (y : List UInt8) : cmpB (b :: y) [] = 1 := by unfold cmpB; rw [bl_nil]; simp
theorem down_cmp (W V : Nat) (s t : List UInt8) : ∀ i, cmpB (downN W i ++ s) (downN V i ++ t) = if W % 2 ^ (8 * i) = V % 2 ^ (8 * i) then cmpB s t else if W % 2 ^ (8 * i) < V % 2 ^ (8 * i) then -1 else 1
  | 0 => by simp [downN, Nat.mod_one]
  | i + 1 => by
    have ih := down_cmp W V s t i
    show cmpB (UInt8.ofNat (W / 2 ^ (8 * i)) :: (downN W i ++ s)) (UInt8.ofNat (V / 2 ^ (8 * i)) :: (downN V i ++ t)) = _
    rw [cmpB_cons, ih]
    have e : ∀ U : Nat, (UInt8.ofNat (U / 2 ^ (8 * i))).toNat = U / 2 ^ (8 * i) % 256 := fun U => by simp
    have d : ∀ U : Nat, U % 2 ^ (8 * (i + 1)) = U % 2 ^ (8 * i) + 2 ^ (8 * i) * (U / 2 ^ (8 * i) % 256) := fun U => by
      rw [show 8 * (i + 1) = 8 * i + 8 from by omega, Nat.pow_add, Nat.mod_mul]
    have q : (UInt8.ofNat (W / 2 ^ (8 * i)) = UInt8.ofNat (V / 2 ^ (8 * i))) ↔ W / 2 ^ (8 * i) % 256 = V / 2 ^ (8 * i) % 256 := by
      rw [← UInt8.toNat_inj, e, e]
    rw [e, e, d, d]
    have hP : 0 < 2 ^ (8 * i) := Nat.two_pow_pos _
    have hx : W % 2 ^ (8 * i) < 2 ^ (8 * i) := Nat.mod_lt _ hP
    have hy : V % 2 ^ (8 * i) < 2 ^ (8 * i) := Nat.mod_lt _ hP
    simp only [q]
    generalize W / 2 ^ (8 * i) % 256 = a at *
    generalize V / 2 ^ (8 * i) % 256 = b at *
    generalize W % 2 ^ (8 * i) = x at *
    generalize V % 2 ^ (8 * i) = y at *
    generalize 2 ^ (8 * i) = P at *
    by_cases h1 : a = b
    · subst h1
      by_cases h2 : x = y
      · simp [h2]
      · rw [if_pos rfl, if_neg h2, if_neg (show ¬ (x + P * a = y + P * a) by omega)]
        by_cases h3 : x < y
        · rw [if_pos h3, if_pos (show x + P * a < y + P * a by omega)]
        · rw [if_neg h3, if_neg (show ¬ (x + P * a < y + P * a) by omega)]
    · rw [if_neg h1]
      by_cases h2 : a < b
      · have := Nat.mul_le_mul_left P (show a + 1 ≤ b from h2)
        rw [Nat.mul_add] at this
        rw [if_pos h2, if_neg (by omega), if_pos (by omega)]
      · have := Nat.mul_le_mul_left P (show b + 1 ≤ a from by omega)
        rw [Nat.mul_add] at this
        rw [if_neg h2, if_neg (by omega), if_neg (by omega)]
theorem encN_cmp (n m : Int) (hn : -9223372036854775808 ≤ n ∧ n ≤ 9223372036854775807) (hm : -9223372036854775808 ≤ m ∧ m ≤ 9223372036854775807) (s t : List UInt8) :
    cmpB (encN n ++ s) (encN m ++ t) = if cmpI n m = 0 then cmpB s t else cmpI n m := by
  unfold encN
  rw [down_cmp]
  have h1 := wordN_lt n
  have h2 := wordN_lt m
  rw [show (2 : Nat) ^ (8 * 8) = 18446744073709551616 from rfl, Nat.mod_eq_of_lt h1, Nat.mod_eq_of_lt h2]
  have e1 : (wordN n : Int) = n + 9223372036854775808 := by unfold wordN; omega
  have e2 : (wordN m : Int) = m + 9223372036854775808 := by unfold wordN; omega
  generalize wordN n = a at *
  generalize wordN m = b at *
  unfold cmpI
  by_cases h3 : n < m
  · rw [if_neg (by omega), if_pos (by omega), if_pos h3]; simp
  · by_cases h4 : m < n
    · rw [if_neg (by omega), if_neg (by omega), if_neg h3, if_pos h4]; simp
    · rw [if_pos (by omega), if_neg h3, if_neg h4]; simp
theorem u8_pos {c : UInt8} (h : ¬ c = 0) : 0 < c.toNat := by
  rcases Nat.eq_zero_or_pos c.toNat with e | e
  · exact absurd (UInt8.toNat_inj.1 (by rw [e]; rfl)) h
  · exact e
theorem encT_cmp (s t : List UInt8) : ∀ a b : List UInt8, cmpB (encT a ++ 0 :: 0 :: s) (encT b ++ 0 :: 0 :: t) = if a = b then cmpB s t else cmpB a b
  | [], [] => by simp [encT, cmpB_cons]
  | [], c :: b => by
    rw [if_neg (by simp), cmpB_nil_cons]
    unfold encT
    by_cases hc : c = 0
    · rw [if_pos hc]; show cmpB (0 :: 0 :: s) (0 :: 255 :: (encT b ++ 0 :: 0 :: t)) = -1
      rw [cmpB_cons, if_pos rfl, cmpB_cons, if_neg (by decide), if_pos (by decide)]
    · rw [if_neg hc]; show cmpB (0 :: 0 :: s) (c :: (encT b ++ 0 :: 0 :: t)) = -1
      rw [cmpB_cons, if_neg (Ne.symm hc), if_pos (show (0 : UInt8).toNat < c.toNat from u8_pos hc)]
  | c :: a, [] => by
    rw [if_neg (by simp), cmpB_cons_nil]
    unfold encT
    by_cases hc : c = 0
    · rw [if_pos hc]; show cmpB (0 :: 255 :: (encT a ++ 0 :: 0 :: s)) (0 :: 0 :: t) = 1
      rw [cmpB_cons, if_pos rfl, cmpB_cons, if_neg (by decide), if_neg (by decide)]
    · rw [if_neg hc]; show cmpB (c :: (encT a ++ 0 :: 0 :: s)) (0 :: 0 :: t) = 1
      rw [cmpB_cons, if_neg hc, if_neg (by have := u8_pos hc; show ¬ c.toNat < 0; omega)]
  | c :: a, d :: b => by
    have ih := encT_cmp s t a b
    rw [cmpB_cons c d]
    by_cases hc : c = 0
    · by_cases hd : d = 0
      · subst hc; subst hd
        show cmpB (0 :: 255 :: (encT a ++ 0 :: 0 :: s)) (0 :: 255 :: (encT b ++ 0 :: 0 :: t)) = _
        rw [cmpB_cons, if_pos rfl, cmpB_cons, if_pos rfl, ih]
        by_cases e : a = b <;> simp [e]
      · rw [show encT (d :: b) = d :: encT b from if_neg hd]
        subst hc
        show cmpB (0 :: 255 :: (encT a ++ 0 :: 0 :: s)) (d :: (encT b ++ 0 :: 0 :: t)) = _
        have n1 : ¬ (0 : UInt8) = d := Ne.symm hd
        have n2 : ¬ (0 :: a = d :: b) := fun q => n1 (List.cons.inj q).1
        simp only [cmpB_cons, n1, n2, if_false]
    · rw [show encT (c :: a) = c :: encT a from if_neg hc]
      by_cases hd : d = 0
      · subst hd
        show cmpB (c :: (encT a ++ 0 :: 0 :: s)) (0 :: 255 :: (encT b ++ 0 :: 0 :: t)) = _
        have n2 : ¬ (c :: a = 0 :: b) := fun q => hc (List.cons.inj q).1
        simp only [cmpB_cons, hc, n2, if_false]
      · rw [show encT (d :: b) = d :: encT b from if_neg hd]
        show cmpB (c :: (encT a ++ 0 :: 0 :: s)) (d :: (encT b ++ 0 :: 0 :: t)) = _
        rw [cmpB_cons, ih]
        by_cases e : c = d
        · subst e
          by_cases e2 : a = b <;> simp [e2]
        · have n2 : ¬ (c :: a = d :: b) := fun q => e (List.cons.inj q).1
          simp only [e, n2, if_false]
theorem right_cases {x : S33} (h : rightV x = 0) : (x.f0 = 0 ∧ x.f1 = 0 ∧ txt x.f2 = []) ∨ (x.f0 = 1 ∧ (x.f1 = 0 ∨ x.f1 = 1) ∧ txt x.f2 = []) ∨ (x.f0 = 2 ∧ txt x.f2 = []) ∨ (x.f0 = 3 ∧ x.f1 = 0) := by
  unfold rightV at h
  by_cases h0 : x.f0 = 0
  · rw [if_pos h0] at h
    by_cases h1 : x.f1 = 0 ∧ txt x.f2 = []
    · exact .inl ⟨h0, h1⟩
    · rw [if_neg h1] at h; omega
  rw [if_neg h0] at h
  by_cases h1 : x.f0 = 1
  · rw [if_pos h1] at h
    by_cases h2 : (x.f1 = 0 ∨ x.f1 = 1) ∧ txt x.f2 = []
    · exact .inr (.inl ⟨h1, h2⟩)
    · rw [if_neg h2] at h; omega
  rw [if_neg h1] at h
  by_cases h2 : x.f0 = 2
  · rw [if_pos h2] at h
    by_cases h3 : txt x.f2 = []
    · exact .inr (.inr (.inl ⟨h2, h3⟩))
    · rw [if_neg h3] at h; omega
  rw [if_neg h2] at h
  by_cases h3 : x.f0 = 3
  · rw [if_pos h3] at h
    by_cases h4 : x.f1 = 0
    · exact .inr (.inr (.inr ⟨h3, h4⟩))
    · rw [if_neg h4] at h; omega
  · rw [if_neg h3] at h; omega
theorem ordS_txt (x y : S33) : ordS x y = if cmpI x.f0 y.f0 ≠ 0 then cmpI x.f0 y.f0 else if cmpI x.f1 y.f1 ≠ 0 then cmpI x.f1 y.f1 else cmpB (txt x.f2) (txt y.f2) := by
  unfold ordS ordV
  rw [cmpS_is, toList_txt, toList_txt]
theorem cmpI_self (n : Int) : cmpI n n = 0 := by unfold cmpI; simp
theorem enc_cmp (x y : S33) (hx : rightV x = 0) (hy : rightV y = 0) (ox : -9223372036854775808 ≤ x.f1 ∧ x.f1 ≤ 9223372036854775807) (oy : -9223372036854775808 ≤ y.f1 ∧ y.f1 ≤ 9223372036854775807) (s t : List UInt8) :
    cmpB (encB x ++ s) (encB y ++ t) = if ordS x y = 0 then cmpB s t else ordS x y := by
  rw [ordS_txt]
  unfold encB
  rcases right_cases hx with ⟨a0, a1, a2⟩ | ⟨a0, a1, a2⟩ | ⟨a0, a2⟩ | ⟨a0, a1⟩ <;> rcases right_cases hy with ⟨b0, b1, b2⟩ | ⟨b0, b1, b2⟩ | ⟨b0, b2⟩ | ⟨b0, b1⟩
  · simp [a0, a1, a2, b0, b1, b2, cmpI, cmpB_cons, cmpB_self]
  · rcases b1 with b1 | b1 <;> simp [a0, a1, a2, b0, b1, b2, cmpI, cmpB_cons, cmpB_self]
  · simp [a0, a1, a2, b0, b2, cmpI, cmpB_cons, cmpB_self]
  · simp [a0, a1, a2, b0, b1, cmpI, cmpB_cons, cmpB_self]
  · rcases a1 with a1 | a1 <;> simp [a0, a1, a2, b0, b1, b2, cmpI, cmpB_cons, cmpB_self]
  · rcases a1 with a1 | a1 <;> rcases b1 with b1 | b1 <;> simp [a0, a1, a2, b0, b1, b2, cmpI, cmpB_cons, cmpB_self]
  · rcases a1 with a1 | a1 <;> simp [a0, a1, a2, b0, b2, cmpI, cmpB_cons, cmpB_self]
  · rcases a1 with a1 | a1 <;> simp [a0, a1, a2, b0, b1, cmpI, cmpB_cons, cmpB_self]
  · simp [a0, a2, b0, b1, b2, cmpI, cmpB_cons, cmpB_self]
  · rcases b1 with b1 | b1 <;> simp [a0, a2, b0, b1, b2, cmpI, cmpB_cons, cmpB_self]
  · rw [a0, b0, a2, b2, cmpI_self, cmpB_self]
    have e := encN_cmp x.f1 y.f1 ox oy s t
    show cmpB (4 :: (encN x.f1 ++ s)) (4 :: (encN y.f1 ++ t)) = _
    rw [cmpB_cons, if_pos rfl, e]
    by_cases h : cmpI x.f1 y.f1 = 0 <;> simp [h]
  · simp [a0, a2, b0, b1, cmpI, cmpB_cons, cmpB_self]
  · simp [a0, a1, b0, b1, b2, cmpI, cmpB_cons, cmpB_self]
  · rcases b1 with b1 | b1 <;> simp [a0, a1, b0, b1, b2, cmpI, cmpB_cons, cmpB_self]
  · simp [a0, a1, b0, b2, cmpI, cmpB_cons, cmpB_self]
  · rw [a0, b0, a1, b1]
    have e := encT_cmp s t (txt x.f2) (txt y.f2)
    show cmpB (5 :: ((encT (txt x.f2) ++ [0, 0]) ++ s)) (5 :: ((encT (txt y.f2) ++ [0, 0]) ++ t)) = _
    rw [cmpB_cons, if_pos rfl, List.append_assoc, List.append_assoc]
    show cmpB (encT (txt x.f2) ++ 0 :: 0 :: s) (encT (txt y.f2) ++ 0 :: 0 :: t) = _
    rw [e]
    simp only [cmpI_self, ne_eq, not_true_eq_false, if_false]
    by_cases h : txt x.f2 = txt y.f2
    · rw [if_pos h, h, cmpB_self]; simp
    · have := lin_bytes.zero (txt x.f2) (txt y.f2)
      rw [if_neg h, if_neg (fun q => h (this.1 q))]
theorem encB_cons (x : S33) : ∃ b l, encB x = b :: l := by
  unfold encB
  split
  · exact ⟨_, _, rfl⟩
  · split
    · exact ⟨_, _, rfl⟩
    · split
      · exact ⟨_, _, rfl⟩
      · exact ⟨_, _, rfl⟩
theorem bytes_cmp : ∀ (l0 l1 : List S33), (∀ x ∈ l0, rightV x = 0 ∧ -9223372036854775808 ≤ x.f1 ∧ x.f1 ≤ 9223372036854775807) → (∀ x ∈ l1, rightV x = 0 ∧ -9223372036854775808 ≤ x.f1 ∧ x.f1 ≤ 9223372036854775807) →
    cmpB (bytesR l0) (bytesR l1) = ordL l0 l1
  | [], [], _, _ => by simp [bytesR, ordL, cmpB_self]
  | [], y :: l1, _, _ => by
    obtain ⟨b, l, e⟩ := encB_cons y
    show cmpB [] (encB y ++ bytesR l1) = -1
    rw [e]; exact cmpB_nil_cons _ _
  | x :: l0, [], _, _ => by
    obtain ⟨b, l, e⟩ := encB_cons x
    show cmpB (encB x ++ bytesR l0) [] = 1
    rw [e]; exact cmpB_cons_nil _ _
  | x :: l0, y :: l1, h0, h1 => by
    have ih := bytes_cmp l0 l1 (fun z hz => h0 z (by simp [hz])) (fun z hz => h1 z (by simp [hz]))
    show cmpB (encB x ++ bytesR l0) (encB y ++ bytesR l1) = if ordS x y = 0 then ordL l0 l1 else ordS x y
    rw [enc_cmp x y (h0 x (by simp)).1 (h1 y (by simp)).1 (h0 x (by simp)).2 (h1 y (by simp)).2, ih]
end Go.Proofs.Ythghflgmeepnlaa.Pa
end
section
namespace Go.Proofs.Ythghflgmeepnlaa.Pa
open Go.RowKit Go.Proofs.YthghflgmeepnlaaW.PrintWords Go.Proofs.YthghflgmeepnlaaW.PrintLast
set_option linter.unusedVariables false
set_option linter.unusedSimpArgs false
theorem ints_is (x y : Int) : cordonref01_ints.f x y = some (cmpI x y) := by
  unfold cordonref01_ints.f cmpI
  by_cases h1 : x < y
  · rw [if_pos h1, if_pos h1]
  · by_cases h2 : y < x
    · rw [if_neg h1, if_neg h1, if_pos h2, if_pos h2]
    · rw [if_neg h1, if_neg h1, if_neg h2, if_neg h2]
theorem wrap_next (i : Nat) (h : i ≤ 100000) : wrap64 ((i : Int) + 1) = ((i + 1 : Nat) : Int) := by unfold wrap64; omega
theorem texts_is (a b : ByteArray) (ha : a.size ≤ 1100) (d : Nat) : ∀ (k i : Nat), i + d = a.size → i ≤ b.size →
    cordonref01_texts.l0 (k + 2 * d + 2) a b (i : Int) = some (cmpB ((txt a).drop i) ((txt b).drop i)) := by
  induction d with
  | zero =>
    intro k i hd hb
    rw [show k + 2 * 0 + 2 = (k + 1) + 1 from rfl, cordonref01_texts.l0, if_neg (by omega), cordonref01_texts.j1, if_neg (by simp), ints_is, Option.bind_some]
    rw [List.drop_eq_nil_of_le (show (txt a).length ≤ i by rw [txt_length]; omega)]
    by_cases h : i < b.size
    · obtain ⟨c, _, e⟩ := bt_cons h
      rw [e, cmpB_nil_cons]
      unfold cmpI; rw [if_pos (by omega)]
    · rw [List.drop_eq_nil_of_le (show (txt b).length ≤ i by rw [txt_length]; omega), cmpB_self]
      unfold cmpI; rw [if_neg (by omega), if_neg (by omega)]
  | succ d ih =>
    intro k i hd hb
    rw [show k + 2 * (d + 1) + 2 = (k + 2 * d + 2) + 1 + 1 from by omega, cordonref01_texts.l0, if_pos (by omega), cordonref01_texts.j1]
    obtain ⟨c, e1, e2⟩ := bt_cons (show i < a.size by omega)
    rw [e2]
    by_cases h : i < b.size
    · obtain ⟨c', e3, e4⟩ := bt_cons h
      rw [if_pos (decide_eq_true (by omega)), if_pos (by omega), if_pos (by omega), if_pos (by omega), e1, e3, e4, cmpB_cons, wrap_next i (by omega), ih k (i + 1) (by omega) (by omega)]
      by_cases h1 : c = c'
      · subst h1
        rw [if_neg (by omega), if_neg (by omega), if_pos rfl]
      · have h2 : ¬ c.toNat = c'.toNat := fun q => h1 (UInt8.toNat_inj.1 q)
        rw [if_neg h1]
        by_cases h3 : c.toNat < c'.toNat
        · rw [if_pos (by omega), if_pos h3]
        · rw [if_neg (by omega), if_pos (by omega), if_neg h3]
    · rw [if_neg (by simp; omega), ints_is, Option.bind_some]
      rw [List.drop_eq_nil_of_le (show (txt b).length ≤ i by rw [txt_length]; omega), cmpB_cons_nil]
      unfold cmpI; rw [if_neg (by omega), if_pos (by omega)]
theorem rorder_is (x y : S33) (hx : x.f2.size ≤ 1100) (k : Nat) : cordonref01_Order.f (k + 2202) x.f0 x.f1 x.f2 y.f0 y.f1 y.f2 = some (ordS x y) := by
  rw [ordS_txt]
  unfold cordonref01_Order.f
  have hI : ∀ a b : Int, cmpI a b = 0 ↔ a = b := fun a b => lin_int.zero a b
  by_cases h0 : x.f0 = y.f0
  · rw [if_pos h0, if_neg (show ¬ (cmpI x.f0 y.f0 ≠ 0) by simpa [hI] using h0)]
    by_cases h1 : x.f1 = y.f1
    · rw [if_pos h1, if_neg (show ¬ (cmpI x.f1 y.f1 ≠ 0) by simpa [hI] using h1)]
      have := texts_is x.f2 y.f2 hx x.f2.size (k + 2 * (1100 - x.f2.size)) 0 (by omega) (by omega)
      rw [show k + 2 * (1100 - x.f2.size) + 2 * x.f2.size + 2 = k + 2202 from by omega] at this
      unfold cordonref01_texts.f
      rw [Int.natCast_zero] at this
      rw [this]
      simp
    · rw [if_neg h1, if_pos (show cmpI x.f1 y.f1 ≠ 0 by simpa [hI] using h1), ints_is]; rfl
  · rw [if_neg h0, if_pos (show cmpI x.f0 y.f0 ≠ 0 by simpa [hI] using h0), ints_is]; rfl
end Go.Proofs.Ythghflgmeepnlaa.Pa
end
section
namespace Go.Proofs.Ythghflgmeepnlaa.Pa
open Go.RowKit Go.Proofs.YthghflgmeepnlaaW.PrintWords Go.Proofs.YthghflgmeepnlaaW.PrintLast Go.Proofs.YthghflgmeepnlaaW.PrintMore
open Go.Maps
set_option linter.unusedVariables false
set_option linter.unusedSimpArgs false
theorem inf23 : (Try.prog.info? 23).map (fun i => (i.zero, i.size, i.bytes)) = some (some (.slice none 0 0), 1, 24) := by kernel_rfl
theorem inf3 : (Try.prog.info? 3).map (fun i => (i.zero, i.size, i.bytes)) = some (some (.int .i64 0), 1, 8) := by kernel_rfl
/-- A map of where each text stands first. -/
structure AtM (w : World) (g n : Nat) (ks : List (List UInt8)) : Prop where
  mk ::
  own : ∃ D : DataW Unit, w.ownsMap Try.prog 9 (plainElem Try.prog 3) g n D ∧ IsMap D ∧ (∀ s : List UInt8, D.atKey (.string s) (.lit (.int .i64 0)) = .lit (.int .i64 ((if s ∈ ks then ks.idxOf s else 0) : Nat))) ∧ ∀ s : List UInt8, Maps.has D (.string s) = decide (s ∈ ks)
theorem AtM.start (w : World) : AtM (w.alloc (.map #[] 0)) w.heap.size 0 [] := ⟨.map [], World.ownsMap_made _ _ _ _, isMap_empty, fun s => by rfl, fun s => by rfl⟩
theorem AtM.grown {w w1 : World} {g n : Nat} {l : List (List UInt8)} (h : AtM w g n l) {row : Option Nat} (hg : w.grownBy w1 row) (hne : some g ≠ row) : AtM w1 g n l := by
  obtain ⟨D, h1, h2, h3⟩ := h.own
  exact ⟨D, h1.kept hg hne, h2, h3⟩
theorem AtM.below {w w1 : World} {g n : Nat} {l : List (List UInt8)} (h : AtM w g n l) (hb : Below w.heap.size w w1) : AtM w1 g n l := h.grown (grown_of_below hb) (by simp)
theorem AtM.lt {w : World} {g n : Nat} {l : List (List UInt8)} (h : AtM w g n l) : g < w.heap.size := by
  obtain ⟨D, h1, _, _⟩ := h.own
  exact h1.lt
theorem AtM.more {w : World} {g n : Nat} {l : List (List UInt8)} (h : AtM w g n l) : AtM w g (n + 1) l := by
  obtain ⟨D, h1, h2, h3⟩ := h.own
  exact ⟨D, h1.mono (Nat.le_succ n), h2, h3⟩
theorem put_at {D : DataW Unit} (hD : IsMap D) {ks : List (List UInt8)} {s : List UInt8} (h : ∀ t : List UInt8, D.atKey (.string t) (.lit (.int .i64 0)) = .lit (.int .i64 ((if t ∈ ks then ks.idxOf t else 0) : Nat))) (hh : ∀ t : List UInt8, Maps.has D (.string t) = decide (t ∈ ks)) (hs : s ∉ ks) :
    IsMap (D.put (.string s) (.lit (.int .i64 ks.length))) ∧ (∀ t : List UInt8, (D.put (.string s) (.lit (.int .i64 ks.length))).atKey (.string t) (.lit (.int .i64 0)) = .lit (.int .i64 ((if t ∈ ks ++ [s] then (ks ++ [s]).idxOf t else 0) : Nat))) ∧ ∀ t : List UInt8, Maps.has (D.put (.string s) (.lit (.int .i64 ks.length))) (.string t) = decide (t ∈ ks ++ [s]) := by
  refine ⟨hD.put _ _, fun t => ?_, fun t => ?_⟩
  · by_cases hst : t = s
    · subst hst
      rw [atKey_put_same hD (by simp [WideAt.IsKeyLit]), if_pos (by simp), List.idxOf_append, if_neg hs]
      simp
    · rw [atKey_put_other (fun he => hst (by injection he)), h t]
      by_cases ht : t ∈ ks
      · rw [if_pos ht, if_pos (by simp [ht]), List.idxOf_append, if_pos ht]
      · rw [if_neg ht, if_neg (by simp [ht, hst])]
  · by_cases hst : t = s
    · subst hst
      rw [has_put_same hD (by simp [WideAt.IsKeyLit])]
      simp
    · rw [has_put_other (fun he => hst (by injection he)), hh t]
      simp [hst]
/-- One more row's key: the keys met, each once, and the places of each. -/
def grpStep (st : List (List UInt8) × List (List Int)) (k : List UInt8) (i : Nat) : List (List UInt8) × List (List Int) :=
  if k ∈ st.1 then (st.1, st.2.set (st.1.idxOf k) (st.2.getD (st.1.idxOf k) [] ++ [(i : Int)])) else (st.1 ++ [k], st.2 ++ [[(i : Int)]])
def grpGo : Nat → List (List UInt8) × List (List Int) → List (List UInt8) → List (List UInt8) × List (List Int)
  | _, st, [] => st
  | i, st, k :: ks => grpGo (i + 1) (grpStep st k i) ks
/-- The keys of rows. -/
def keysOf (l : List (List S33)) : List (List UInt8) := l.map (fun r => ky (bytesOfRow r))
def groupsL (l : List (List S33)) : List (List Int) := (grpGo 0 ([], []) (keysOf l)).2
theorem drop_keys {l : List (List S33)} {i : Nat} (h1 : i < l.length) : (keysOf l).drop i = ky (bytesOfRow (rd_L4 l (i : Int))) :: (keysOf l).drop (i + 1) := by
  have hlt : i < (keysOf l).length := by unfold keysOf; rw [List.length_map]; exact h1
  rw [List.drop_eq_getElem_cons hlt]
  have e : (keysOf l)[i] = ky (bytesOfRow (rd_L4 l (i : Int))) := by
    have e1 : rd_L4 l (i : Int) = l[i] := by
      unfold rd_L4
      rw [Int.toNat_natCast, List.getD_eq_getElem?_getD, List.getElem?_eq_getElem h1]
      rfl
    rw [e1]
    simp [keysOf]
  rw [e]
set_option maxHeartbeats 8000000 in
set_option maxRecDepth 100000 in
theorem Groups_calls (P0_ : Nat → Prop) (A0 : Option Addr) (c0 : Nat) (l0 : List (List (S33))) (w : World) (hs0 : Kd.V (Kd.slice 33 k33) 22 w w.heap.size (fun k_ => P0_ k_) (.slice A0 l0.length c0) l0)
    (hl : l0.length < 1000000000) (hrow : ∀ r ∈ l0, r.length ≤ 9223372036854775807) (hmax : ∀ r ∈ l0, (bytesOfRow r).size ≤ maxLen) :
    Calls Try.prog 60 #[.slice A0 l0.length c0] w fun e w' => ∃ v0_ : Value, e = .returned (v0_) ∧ Kd.S (Kd.slice 3 (Kd.int .i64)) 23 w' w.heap.size (fun k_ => w.heap.size < k_) v0_ (groupsL l0) ∧ Below w.heap.size w w' := by
  have hmm := @run_makeMap Try.prog
  have HO0 := Aside0.mk (Kd.V_bound hs0)
  have HB := Aside0.mk (Below.refl w.heap.size w)
  have HR := Aside0.mk hrow
  have HX := Aside0.mk hmax
  have HL := Aside0.mk hl
  clear hrow hl hmax hs0
  go_enter Try.func60, Try.ntmps60
  go_wp2
  go_loopg [4, 13] l0.length (fun kq v4 v13 w' => ∃ (i : Nat) (ks : List (List UInt8)) (gs : List (List Int)), v13 = .int .i64 (i : Int) ∧ Aside0 (i + kq = l0.length) ∧ Aside0 (ks.length = gs.length ∧ gs.length ≤ i) ∧ Aside0 (∀ g ∈ gs, g.length ≤ i) ∧ Aside0 (grpGo i (ks, gs) ((keysOf l0).drop i) = grpGo 0 ([], []) (keysOf l0)) ∧ Aside0 (AtM w' w.heap.size i ks) ∧ Aside0 (Kd.V (Kd.slice 33 k33) 22 w' w.heap.size (fun k_ => P0_ k_ ∧ k_ < w.heap.size) (.slice A0 l0.length c0) l0) ∧ Aside0 (Kd.S (Kd.slice 3 (Kd.int .i64)) 23 w' w.heap.size (fun k_ => w.heap.size < k_) v4 gs) ∧ Aside0 (Below w.heap.size w w'))
  case atStart => exact ⟨0, [], [], rfl, ⟨by simp⟩, ⟨by simp⟩, ⟨by simp⟩, ⟨rfl⟩, ⟨AtM.start w⟩, ⟨Kd.V_alloc HO0.out _⟩, ⟨Kd.S_nil _ _ _ _ _⟩, ⟨below_alloc HB.out _⟩⟩
  case round =>
    clear HB HO0
    obtain ⟨i, ks, gs, rfl, HI, HZ, HG, HA, HD, HV, HS, HB⟩ := hrel
    by_cases c2 : (i : Int) < (l0.length : Int)
    · have c2b : decide ((i : Int) < (l0.length : Int)) = true := decide_eq_true c2
      have p0 : (0 : Int) ≤ i := by omega
      obtain ⟨k1, rfl⟩ : ∃ k1, gk = k1 + 1 := ⟨gk - 1, by have := HI.out; omega⟩
      obtain ⟨ad, A1, c1, e1, hx1, hl1, hi1⟩ := at_L4 (Kd.V_reads' HV.out).2.2 (i : Int) p0 c2
      cases e1
      simp only [Int.toNat_natCast] at hx1
      have HR1 := Aside0.mk hi1
      have HC1 := Aside0.mk hl1
      clear hi1 hl1
      obtain ⟨Ao, co, eo⟩ := Kd.S_slice HS.out
      subst eo
      have p1 := eq_true p0
      have q1 := eq_true c2
      have hmem : rd_L4 l0 (i : Int) ∈ l0 := by
        unfold rd_L4
        rw [Int.toNat_natCast, List.getD_eq_getElem?_getD, List.getElem?_eq_getElem (by omega)]
        exact List.getElem_mem (by omega)
      have hrl := HR.out _ hmem
      obtain ⟨s, hs⟩ : ∃ s, s = bytesOfRow (rd_L4 l0 (i : Int)) := ⟨_, rfl⟩
      have hkey : keyOf Try.prog 9 (.string s) = some (.string (ky s)) := WideMaps.keyOf_string_mk Try.underlying9 (by rw [hs]; exact HX.out _ hmem)
      have hnl := HL.out
      have hA := HA.out
      rw [drop_keys (by omega), grpGo, ← hs] at hA
      have HA' := Aside0.mk hA
      have HBC := Aside0.mk (rows_bytes_calls A1 c1 (rd_L4 l0 (i : Int)) wr HR1.out HC1.out hrl)
      rw [← hs] at HBC
      have HK := Aside0.mk (show i < maxLen by unfold maxLen; omega)
      have HW := Aside0.mk (show wrap64 ((i : Int) + 1) = ((i + 1 : Nat) : Int) by unfold wrap64; omega)
      have HI' := Aside0.mk (show i + 1 + k1 = l0.length by have := HI.out; omega)
      have HN := Aside0.mk hnl
      clear hs hA hmem hrl hnl HA
      go_wp2_with fail
      refine HBC.out.mono ?_
      rintro e w1 ⟨rfl, hb⟩
      obtain ⟨D, hown, hIs, hat0, hhas⟩ := (HD.out.below hb).own
      have HD1 := Aside0.mk (HD.out.below hb)
      have HV1 := Aside0.mk (Kd.V_below HV.out hb)
      have HS1 := Aside0.mk (Kd.S_below HS.out hb)
      have HB1 := Aside0.mk (below_step HB.out hb)
      clear hb HV HS HB HD HBC
      by_cases c3 : ky s ∈ ks
      · have hh : Maps.has D (.string (ky s)) = true := by rw [hhas]; exact decide_eq_true c3
        obtain ⟨q, hq⟩ : ∃ q, q = ks.idxOf (ky s) := ⟨_, rfl⟩
        have hq0 := hat0 (ky s)
        rw [if_pos c3, ← hq] at hq0
        have HQ := Aside0.mk hq0
        have hql : q < gs.length := by rw [hq, ← HZ.out.1]; exact List.idxOf_lt_length_of_mem c3
        have hA := HA'.out
        obtain ⟨gq, hgq⟩ : ∃ x, x = gs.getD q [] := ⟨_, rfl⟩
        rw [grpStep, if_pos c3, ← hq] at hA
        replace hA : grpGo (i + 1) (ks, gs.set q (gq ++ [(i : Int)])) ((keysOf l0).drop (i + 1)) = grpGo 0 ([], []) (keysOf l0) := by rw [hgq]; exact hA
        have HA2 := Aside0.mk hA
        have hqi : (q : Int) < (gs.length : Int) := by omega
        have hq00 : (0 : Int) ≤ (q : Int) := by omega
        have hgl : (gs.getD q []).length ≤ i := HG.out _ (by rw [List.getD_eq_getElem?_getD, List.getElem?_eq_getElem hql]; exact List.getElem_mem hql)
        rw [← hgq] at hgl
        have HGL := Aside0.mk hgl
        obtain ⟨ado, co2, eo2⟩ := Kd.R_slice1 (Kd.S_R HS1.out) (by omega)
        injection eo2 with ea1 _ ea3
        subst ea1
        subst ea3
        obtain ⟨b, rfl⟩ := Kd.R_head (Kd.S_R HS1.out)
        obtain ⟨oki, c, hcl, hM, hcc, hfr, hoki, hH⟩ := Kd.S_elem HS1.out [] (q : Int) hq00 hqi
        obtain ⟨vr, rfl, hR⟩ := hM
        rw [Int.toNat_natCast, ← hgq] at hR
        clear hgq
        have hcell := hcc 0 vr rfl
        have hfree := hfr 0
        rw [Nat.add_zero, show ((Kd.slice 3 (Kd.int .i64))).sz = 1 from rfl, Nat.mul_one, Int.toNat_natCast] at hcell hfree
        have HRR := Aside0.mk hR
        have HHH := Aside0.mk hH
        have HOK := Aside0.mk hoki
        obtain ⟨Ar, cr, er⟩ := Kd.R_slice hR
        subst er
        have HCELL := Aside0.mk hcell
        have HFREE := Aside0.mk hfree
        clear hcl hcc hfr hR hH hoki hat0 hhas hIs c3 hq hq0 hA hgl hfree
        go_wp2_with (first
          | (at_lookup; refine wpList_lookup_own_ok_int _ rfl _ _ 103 rfl 9 3 .i64 law9 Try.underlying103 Try.underlying3 (zero3m _) w.heap.size _ _ rfl hown _ _ rfl hkey ?_; intro c' hat' hwc'; rw [hh]; (have e1 : c' = (q : Int) := by (have h1 := hat'.symm.trans HQ.out; injection h1 with h1; injection h1)); subst e1; clear hat' hwc')
          | ((with_reducible refine gate_builtin (b := .append) (xs := #[.tmp 41, .tmp 43]) rfl ?_); at_builtin; go_loud (refine Kd.R_append (Kd.int .i64) (w0 := w) w.heap.size rfl (.tmp 41) (.tmp 43) 23 3 (.int .i64 0) 8 rfl Try.underlying23 inf3 rfl (by decide) (by omega) (.slice Ar gq.length cr) gq (i : Int) [.int .i64 (i : Int)] (fun k => oki k ∨ (fun k_ => w.heap.size < k_) k ∧ w1.heap.size ≤ k) (fun _ => False) rfl (by first | (go_simp; done) | (go_simp; rfl)) ?aP (fun _ hk => hk.elim) ?aF ?aO ?aB ?aS ?aL ?_; (case aP => exact rfl); (case aB => exact HB1.out); (case aF => exact (fun k hk => .inr ⟨Nat.lt_of_lt_of_le HD1.out.lt hk, hk⟩)); (case aO => exact Kd.R_mono HRR.out (fun k hk => .inl hk)); (case aS => exact below_size HB1.out); (case aL => have h1 := HGL.out; have h2 := HN.out; have h3 := HI'.out; omega); intro v4 w4 ho hb hg hat; obtain ⟨A4, c4, e4⟩ := Kd.R_slice ho; rw [List.length_append, show ([(i : Int)] : List Int).length = 1 from rfl] at e4; subst e4; have HR4 := Aside0.mk ho; have HB4 := Aside0.mk hb; have HV4 := Aside0.mk (Kd.V_grown HV1.out hg (fun k hk he => by have h1 := own_base (Kd.R_own HRR.out).choose_spec k he.symm; have h2 := hk.2; omega)); have HD4 := Aside0.mk (HD1.out.grown hg (fun he => by have h1 := (HOK.out _ (HRR.out.1 _ he.symm)).1; omega)); have HH4 := Aside0.mk (Kd.H_grown (Kd.H_widen HHH.out) hg (fun k hk => .inl (HRR.out.1 k hk))); clear ho hb hg hat HRR HB1 HV1 HD1 HHH))
          | ((with_reducible refine gate_store (t := 23) (p := 45) rfl ?_); go_loud (refine Kd.H_store (Kd.slice 3 (Kd.int .i64)) (w0 := w) w.heap.size rfl rfl 23 (.tmp 45) (.tmp 44) rfl 23 (q : Int) 0 gs (gq ++ [(i : Int)]) (.slice A4 (gq.length + 1) c4) [.slice A4 (gq.length + 1) c4] _ _ _ (fun k => oki k ∨ (fun k_ => w.heap.size < k_) k ∧ w1.heap.size ≤ k) rfl ?bO rfl ?bU (by kernel_rfl) ?b1 HH4.out hq00 hqi (Nat.le_refl _) ?bM (fun k hk => hk) HB4.out ?_; (case bO => (rw [Int.toNat_natCast, show ((Kd.slice 3 (Kd.int .i64))).sz = 1 from rfl]; omega)); (case bU => rfl); (case b1 => (simp [Value.oneCell'])); (case bM => exact ⟨_, rfl, HR4.out⟩); intro w9 hs9 hb9 hg9; rw [Int.toNat_natCast] at hs9; have HS9 := Aside0.mk hs9; have HB9 := Aside0.mk hb9; have HV9 := Aside0.mk (Kd.V_grown HV4.out hg9 (fun k hk he => by injection he with he; have h1 := (Kd.S_R hs9).1 b rfl; have h2 := hk.2; omega)); have HD9 := Aside0.mk (HD4.out.grown hg9 (fun he => by injection he with he; have h1 := (Kd.S_R hs9).1 b rfl; omega)); clear hs9 hb9 hg9 HB4 HV4 HD4 HH4 HR4)))
        go_roundg k1
        case measure => omega
        case rel => exact ⟨i + 1, ks, gs.set q (gq ++ [(i : Int)]), by rw [HW.out], HI', ⟨by have := HZ.out; simp; omega⟩, ⟨fun g hg => by
            rcases List.mem_or_eq_of_mem_set hg with hg | hg
            · have := HG.out g hg; omega
            · rw [hg, List.length_append]; have := HGL.out; simp; omega⟩, HA2, ⟨HD9.out.more⟩, HV9, HS9, HB9⟩
      · have hh : Maps.has D (.string (ky s)) = false := by rw [hhas]; exact decide_eq_false c3
        have hq0 := hat0 (ky s)
        rw [if_neg c3] at hq0
        have HQ := Aside0.mk hq0
        have HPC := Aside0.mk (put_at hIs hat0 hhas c3)
        rw [HZ.out.1] at HPC
        have hA := HA'.out
        rw [grpStep, if_neg c3] at hA
        have HA2 := Aside0.mk hA
        have HGL2 := Aside0.mk (show gs.length < 1000000000 by have h1 := HZ.out; have h2 := HN.out; omega)
        have hwq : (Lit.int .i64 (gs.length : Int)).wf = true := WalkArith.wf_i64 (by have := HGL2.out; omega)
        have HWQ := Aside0.mk hwq
        have hq00 : (0 : Int) ≤ (gs.length : Int) := by omega
        have hqi : (gs.length : Int) < ((gs.length + 1 : Nat) : Int) := by omega
        clear hat0 hhas hIs c3 hq0 hA hwq
        go_wp2_with (first
          | (at_lookup; refine wpList_lookup_own_ok_int _ rfl _ _ 103 rfl 9 3 .i64 law9 Try.underlying103 Try.underlying3 (zero3m _) w.heap.size _ _ rfl hown _ _ rfl hkey ?_; intro c' hat' hwc'; rw [hh]; (have e1 : c' = 0 := by (have h1 := hat'.symm.trans HQ.out; injection h1 with h1; injection h1)); subst e1; clear hat' hwc')
          | (at_mapUpdate; refine wpList_mapUpdate_own _ rfl _ _ _ 103 rfl 9 3 law9 Try.underlying103 _ w.heap.size _ _ rfl hown HK.out _ _ _ rfl rfl hkey _ [] (plainElem_int Try.underlying3 HWQ.out) ?_; intro w2 hown1 hg1; have HD2 := Aside0.mk (AtM.mk ⟨_, hown1, HPC.out.1, HPC.out.2.1, HPC.out.2.2⟩); have HV2 := Aside0.mk (Kd.V_grown HV1.out hg1 (fun k hk he => by injection he with he; have := hk.2; omega)); have HS2 := Aside0.mk (Kd.S_grown HS1.out hg1 (fun k hk he => by injection he with he; omega)); have HB2 := Aside0.mk (pw_below_grown HB1.out _ (below_size HB1.out) hg1 (fun k hk => by injection hk with hk; omega)); clear HV1 HS1 HB1 HD1 hg1 hown1 hown)
          | ((with_reducible refine gate_builtin (b := .append) (xs := #[.tmp 33, .tmp 34]) rfl ?_); at_builtin; refine Kd.S_append (Kd.slice 3 (Kd.int .i64)) (w0 := w) w.heap.size rfl (.tmp 33) (.tmp 34) 66 23 (.slice none 0 0) 24 rfl Try.underlying66 inf23 rfl (by decide) (by omega) (.slice Ao gs.length co) gs ([] : List Int) [.slice none 0 0] (fun k_ => w.heap.size < k_) (fun _ => False) rfl rfl ?aP (fun _ hk => hk.elim) ?aF ?aO ?aB ?aS ?aL ?_; (case aP => exact ⟨_, rfl, Kd.R_nil _ _ _ _ _⟩); (case aB => exact HB2.out); (case aF => exact (fun k hk => Nat.lt_of_lt_of_le HD2.out.lt hk)); (case aO => exact Kd.S_mono HS2.out (fun k hk => ⟨hk, fun h => h⟩)); (case aS => exact below_size HB2.out); (case aL => have := HGL2.out; omega); intro v3 w3 ho hb hg hat; have HS3 := Aside0.mk ho; have HB3 := Aside0.mk hb; have HV3 := Aside0.mk (Kd.V_grown HV2.out hg (fun k hk he => by have h1 := own_base (Kd.R_own (Kd.S_R HS2.out)).choose_spec k he.symm; have h2 := hk.2; omega)); have HD3 := Aside0.mk (HD2.out.grown hg (fun he => by have h1 := (Kd.S_R HS2.out).1 _ he.symm; omega)); clear ho hb hg hat HS2 HB2 HV2 HD2; (obtain ⟨ado, co2, eo2⟩ := Kd.R_slice1 (Kd.S_R HS3.out) (by simp)); rw [List.length_append, show ([([] : List Int)] : List (List Int)).length = 1 from rfl] at eo2; subst eo2; (obtain ⟨b, rfl⟩ := Kd.R_head (Kd.S_R HS3.out)); (obtain ⟨oki, c, hcl, hM, hcc, hfr, hoki, hH⟩ := Kd.S_elem HS3.out [] (gs.length : Int) hq00 hqi); (obtain ⟨vr, rfl, hR⟩ := hM); rw [Int.toNat_natCast, List.getD_eq_getElem?_getD, List.getElem?_append_right (Nat.le_refl _), Nat.sub_self] at hR; replace hR : (Kd.int .i64).R 3 w3 w.heap.size oki vr ([] : List Int) := hR; have hcell := hcc 0 vr rfl; have hfree := hfr 0; rw [Nat.add_zero, show ((Kd.slice 3 (Kd.int .i64))).sz = 1 from rfl, Nat.mul_one, Int.toNat_natCast] at hcell hfree; have HRR := Aside0.mk hR; have HHH := Aside0.mk hH; have HOK := Aside0.mk hoki; (obtain ⟨Ar, cr, er⟩ := Kd.R_slice hR); subst er; replace hcell : w3.cell? ⟨b, gs.length, none⟩ = some (.slice Ar 0 cr) := hcell; clear hcl hcc hfr hR hH hoki)
          | ((with_reducible refine gate_builtin (b := .append) (xs := #[.tmp 41, .tmp 43]) rfl ?_); at_builtin; go_loud (refine Kd.R_append (Kd.int .i64) (w0 := w) w.heap.size rfl (.tmp 41) (.tmp 43) 23 3 (.int .i64 0) 8 rfl Try.underlying23 inf3 rfl (by decide) (by omega) (.slice Ar 0 cr) ([] : List Int) (i : Int) [.int .i64 (i : Int)] (fun k => oki k ∨ (fun k_ => w.heap.size < k_) k ∧ w3.heap.size ≤ k) (fun _ => False) rfl (by first | (go_simp; done) | (go_simp; rfl)) ?aP (fun _ hk => hk.elim) ?aF ?aO ?aB ?aS ?aL ?_; (case aP => exact rfl); (case aB => exact HB3.out); (case aF => exact (fun k hk => .inr ⟨Nat.lt_of_lt_of_le HD3.out.lt hk, hk⟩)); (case aO => exact Kd.R_mono HRR.out (fun k hk => .inl hk)); (case aS => exact below_size HB3.out); (case aL => simp); intro v4 w4 ho hb hg hat; obtain ⟨A4, c4, e4⟩ := Kd.R_slice ho; rw [show (([] : List Int) ++ [(i : Int)]).length = 1 from rfl] at e4; subst e4; have HR4 := Aside0.mk ho; have HB4 := Aside0.mk hb; have HV4 := Aside0.mk (Kd.V_grown HV3.out hg (fun k hk he => by have h1 := own_base (Kd.R_own HRR.out).choose_spec k he.symm; have h2 := hk.2; omega)); have HD4 := Aside0.mk (HD3.out.grown hg (fun he => by have h1 := (HOK.out _ (HRR.out.1 _ he.symm)).1; omega)); have HH4 := Aside0.mk (Kd.H_grown (Kd.H_widen HHH.out) hg (fun k hk => .inl (HRR.out.1 k hk))); clear ho hb hg hat HRR HB3 HV3 HD3 HHH))
          | ((with_reducible refine gate_store (t := 23) (p := 45) rfl ?_); go_loud (refine Kd.H_store (Kd.slice 3 (Kd.int .i64)) (w0 := w) w.heap.size rfl rfl 23 (.tmp 45) (.tmp 44) rfl 23 (gs.length : Int) 0 (gs ++ [[]]) [(i : Int)] (.slice A4 (1) c4) [.slice A4 (1) c4] _ _ _ (fun k => oki k ∨ (fun k_ => w.heap.size < k_) k ∧ w3.heap.size ≤ k) rfl ?bO rfl ?bU (by kernel_rfl) ?b1 HH4.out hq00 hqi (Nat.le_refl _) ?bM (fun k hk => hk) HB4.out ?_; (case bO => (rw [Int.toNat_natCast, show ((Kd.slice 3 (Kd.int .i64))).sz = 1 from rfl]; omega)); (case bU => rfl); (case b1 => (simp [Value.oneCell'])); (case bM => exact ⟨_, rfl, HR4.out⟩); intro w9 hs9 hb9 hg9; rw [Int.toNat_natCast, List.set_append_right _ _ (Nat.le_refl _), Nat.sub_self, List.set_cons_zero] at hs9; have HS9 := Aside0.mk hs9; have HB9 := Aside0.mk hb9; have HV9 := Aside0.mk (Kd.V_grown HV4.out hg9 (fun k hk he => by injection he with he; have h1 := (Kd.S_R hs9).1 b rfl; have h2 := hk.2; omega)); have HD9 := Aside0.mk (HD4.out.grown hg9 (fun he => by injection he with he; have h1 := (Kd.S_R hs9).1 b rfl; omega)); clear hs9 hb9 hg9 HB4 HV4 HD4 HH4 HR4)))
        go_roundg k1
        case measure => omega
        case rel => exact ⟨i + 1, ks ++ [ky s], gs ++ [[(i : Int)]], by rw [HW.out], HI', ⟨by have := HZ.out; simp; omega⟩, ⟨fun g hg => by
            rcases List.mem_append.1 hg with hg | hg
            · have := HG.out g hg; omega
            · rw [List.mem_singleton.1 hg]; simp⟩, HA2, ⟨HD9.out⟩, HV9, HS9, HB9⟩
    · have c2b : decide ((i : Int) < (l0.length : Int)) = false := decide_eq_false c2
      have hA := HA.out
      rw [show i = l0.length by have := HI.out; omega, show l0.length = (keysOf l0).length by unfold keysOf; simp, List.drop_length] at hA
      have hg : gs = groupsL l0 := by unfold groupsL; rw [← hA]; rfl
      subst hg
      obtain ⟨Ao, co, eo⟩ := Kd.S_slice HS.out
      subst eo
      clear hA
      go_wp2
      go_ret
      exact ⟨_, rfl, HS.out, HB.out⟩
end Go.Proofs.Ythghflgmeepnlaa.Pa
end
section
namespace Go.Proofs.Ythghflgmeepnlaa.Pa
open Go.RowKit Go.Proofs.YthghflgmeepnlaaW.PrintWords Go.Proofs.YthghflgmeepnlaaW.PrintLast Go.Proofs.YthghflgmeepnlaaW.PrintMore
attribute [local go_sem] max2_int max_two
set_option linter.unusedVariables false
set_option linter.unusedSimpArgs false
attribute [local go_sem high] eqA33
def cordonref02_Same.l0 : Nat → List (S33) → List (S33) → Int → Option (Bool)
  | 0, _, _, _ => none
  | k + 1, x0, x1, x5 => if x5 < (x0.length : Int) then (if 0 ≤ x5 then (if x5 < (x1.length : Int) then (if (!(((rd_T33 x0 x5).f0) == ((rd_T33 x1 x5).f0)) || (!(((rd_T33 x0 x5).f1) == ((rd_T33 x1 x5).f1)) || (!((((rd_T33 x0 x5).f2).toList) == (((rd_T33 x1 x5).f2).toList))))) = true then (some false) else (cordonref02_Same.l0 k x0 x1 (wrap64 (x5 + 1)))) else (none)) else (none)) else (some true)
def cordonref02_Same.f (k : Nat) (l0 : List (S33)) (l1 : List (S33)) : Option (Bool) := if (l0.length : Int) = (l1.length : Int) then (cordonref02_Same.l0 k l0 l1 0) else (some false)
set_option maxHeartbeats 8000000 in
set_option maxRecDepth 100000 in
theorem cordonref02_Same.calls (k : Nat) (A0 : Option Addr) (c0 : Nat) (l0 : List (S33)) (A1 : Option Addr) (c1 : Nat) (l1 : List (S33)) (r : Bool) (w : World) (hr0 : Kd.C k33 w A0 l0.length l0) (hc0 : l0.length ≤ c0) (hr1 : Kd.C k33 w A1 l1.length l1) (hc1 : l1.length ≤ c1) (h : cordonref02_Same.f k l0 l1 = some r) :
    Calls Try.prog 49 #[.slice A0 l0.length c0, .slice A1 l1.length c1] w fun e w' => e = .returned (.bool r) ∧ Drawn0 w w' := by
  have hu33 := Try.underlying33
  have HR0 := Aside0.mk hr0
  have HC0 := Aside0.mk hc0
  clear hr0 hc0
  have HR1 := Aside0.mk hr1
  have HC1 := Aside0.mk hc1
  clear hr1 hc1
  have H : (if (l0.length : Int) = (l1.length : Int) then (cordonref02_Same.l0 k l0 l1 0) else (some false)) = some r := h
  clear h
  by_cases c3 : (l0.length : Int) = (l1.length : Int)
  · rw [if_pos c3] at H
    have c3b0 : ((l0.length : Int) == (l1.length : Int)) = true := beq_iff_eq.mpr c3
    have c3b1 : ((l0.length : Int) != (l1.length : Int)) = false := bne_eq_false_iff_eq.mpr c3
    have c3b2 : (l0.length == l1.length) = true := by first | simpa using c3 | (simp at c3 ⊢; omega)
    clear c3
    have H' := Aside0.mk H
    clear H
    go_enter Try.func49, Try.ntmps49
    go_wp2
    repeat (go_quiet (fail); try go_wp2)
    go_loopg [5] k (fun kq v5 w' => ∃ (x5_1 : Int), v5 = .int .i64 x5_1 ∧ Aside0 (cordonref02_Same.l0 kq l0 l1 x5_1 = some r) ∧ Aside0 (kq ≤ k) ∧ Drawn0 w w')
    case atStart => exact ⟨(0), (by first | rfl | (simp; done) | (simp [*]; done)), H', ⟨Nat.le_refl _⟩, by repeat (first | exact Drawn0.refl _ | apply Drawn0.step)⟩
    case round =>
      clear H'
      try clear c1
      try clear p2
      try clear c3
      try clear c3b0
      try clear c3b1
      try clear c3b2
      obtain ⟨x5_1, rfl, HA, HK1, ⟨m1, rfl⟩⟩ := hrel
      cases gk with
      | zero => exact absurd HA.out (by simp [cordonref02_Same.l0])
      | succ k1 =>
        have H := HA.out
        clear HA
        simp only [cordonref02_Same.l0] at H
        by_cases c4 : x5_1 < (l0.length : Int)
        · rw [if_pos c4] at H
          have c4b0 : decide (x5_1 < (l0.length : Int)) = true := decide_eq_true c4
          clear c4
          by_cases c5 : 0 ≤ x5_1
          · rw [if_pos c5] at H
            have c5b0 : decide (0 ≤ x5_1) = true := decide_eq_true c5
            clear c5
            by_cases c6 : x5_1 < (l1.length : Int)
            · rw [if_pos c6] at H
              have c6b0 : decide (x5_1 < (l1.length : Int)) = true := decide_eq_true c6
              clear c6
              by_cases c7 : (!(((rd_T33 l0 x5_1).f0) == ((rd_T33 l1 x5_1).f0)) || (!(((rd_T33 l0 x5_1).f1) == ((rd_T33 l1 x5_1).f1)) || (!((((rd_T33 l0 x5_1).f2).toList) == (((rd_T33 l1 x5_1).f2).toList))))) = true
              · rw [if_pos c7] at H
                have c7b0 : (!(((rd_T33 l0 x5_1).f0) == ((rd_T33 l1 x5_1).f0)) || (!(((rd_T33 l0 x5_1).f1) == ((rd_T33 l1 x5_1).f1)) || (!((((rd_T33 l0 x5_1).f2).toList) == (((rd_T33 l1 x5_1).f2).toList))))) = true := c7
                clear c7
                obtain rfl := Option.some.inj H
                have p416 : 0 ≤ (x5_1 : Int) := of_decide_eq_true (by first | (with_reducible assumption) | assumption)
                have q416 : x5_1 < (l0.length : Int) := of_decide_eq_true (by first | (with_reducible assumption) | assumption)
                obtain ⟨ad416, e416, hx416_0, hx416_1, hx416_2⟩ := at_T33 HR0.out x5_1 p416 q416
                cases e416
                replace p416 := eq_true p416
                replace q416 := eq_true q416
                have p417 : 0 ≤ (x5_1 : Int) := of_decide_eq_true (by first | (with_reducible assumption) | assumption)
                have q417 : x5_1 < (l1.length : Int) := of_decide_eq_true (by first | (with_reducible assumption) | assumption)
                obtain ⟨ad417, e417, hx417_0, hx417_1, hx417_2⟩ := at_T33 HR1.out x5_1 p417 q417
                cases e417
                replace p417 := eq_true p417
                replace q417 := eq_true q417
                go_wp2
                repeat (go_quiet (fail); try go_wp2)
                go_ret
                exact ⟨by first | rfl | (simp; done) | (simp [*]; done), by repeat (first | exact Drawn0.refl _ | apply Drawn0.step)⟩
              · rw [if_neg c7] at H
                have c7b0 : (!(((rd_T33 l0 x5_1).f0) == ((rd_T33 l1 x5_1).f0)) || (!(((rd_T33 l0 x5_1).f1) == ((rd_T33 l1 x5_1).f1)) || (!((((rd_T33 l0 x5_1).f2).toList) == (((rd_T33 l1 x5_1).f2).toList))))) = false := by simpa using c7
                clear c7
                have H' := Aside0.mk H
                clear H
                have p416 : 0 ≤ (x5_1 : Int) := of_decide_eq_true (by first | (with_reducible assumption) | assumption)
                have q416 : x5_1 < (l0.length : Int) := of_decide_eq_true (by first | (with_reducible assumption) | assumption)
                obtain ⟨ad416, e416, hx416_0, hx416_1, hx416_2⟩ := at_T33 HR0.out x5_1 p416 q416
                cases e416
                replace p416 := eq_true p416
                replace q416 := eq_true q416
                have p417 : 0 ≤ (x5_1 : Int) := of_decide_eq_true (by first | (with_reducible assumption) | assumption)
                have q417 : x5_1 < (l1.length : Int) := of_decide_eq_true (by first | (with_reducible assumption) | assumption)
                obtain ⟨ad417, e417, hx417_0, hx417_1, hx417_2⟩ := at_T33 HR1.out x5_1 p417 q417
                cases e417
                replace p417 := eq_true p417
                replace q417 := eq_true q417
                go_wp2
                repeat (go_quiet (fail); try go_wp2)
                go_roundg k1
                case measure => have := HK1.out; omega
                case rel => exact ⟨(wrap64 (x5_1 + 1)), (by first | rfl | (simp; done) | (simp [*]; done)), H', ⟨by have := HK1.out; omega⟩, by repeat (first | exact Drawn0.refl _ | apply Drawn0.step)⟩
            · rw [if_neg c6] at H
              exact absurd H (by simp)
          · rw [if_neg c5] at H
            exact absurd H (by simp)
        · rw [if_neg c4] at H
          have c4b0 : decide (x5_1 < (l0.length : Int)) = false := decide_eq_false c4
          clear c4
          obtain rfl := Option.some.inj H
          go_wp2
          repeat (go_quiet (fail); try go_wp2)
          go_ret
          exact ⟨by first | rfl | (simp; done) | (simp [*]; done), by repeat (first | exact Drawn0.refl _ | apply Drawn0.step)⟩
  · rw [if_neg c3] at H
    have c3b0 : ((l0.length : Int) == (l1.length : Int)) = false := beq_eq_false_iff_ne.mpr c3
    have c3b1 : ((l0.length : Int) != (l1.length : Int)) = true := bne_iff_ne.mpr c3
    have c3b2 : (l0.length == l1.length) = false := by first | simpa using c3 | (simp at c3 ⊢; omega)
    obtain rfl := Option.some.inj H
    go_enter Try.func49, Try.ntmps49
    go_wp2
    repeat (go_quiet (fail); try go_wp2)
    go_ret
    exact ⟨by first | rfl | (simp; done) | (simp [*]; done), by repeat (first | exact Drawn0.refl _ | apply Drawn0.step)⟩
end Go.Proofs.Ythghflgmeepnlaa.Pa
end
section
namespace Go.Proofs.Ythghflgmeepnlaa.Pure
open Go.RowKit Go.Proofs.Ythghflgmeepnlaa.Pa Go.Proofs.YthghflgmeepnlaaW.PrintWords Go.Proofs.YthghflgmeepnlaaW.PrintLast
set_option linter.unusedVariables false
set_option linter.unusedSimpArgs false
theorem wrap_next (i : Nat) (h : i ≤ 100000) : wrap64 ((i : Int) + 1) = ((i + 1 : Nat) : Int) := by unfold wrap64; omega
theorem same_l0 (l0 l1 : List S33) (hl : l0.length ≤ 60) (he : l0.length = l1.length) (d : Nat) : ∀ (k i : Nat), i + d = l0.length →
    cordonref02_Same.l0 (k + d + 1) l0 l1 (i : Int) = some (decide (ordL (l0.drop i) (l1.drop i) = 0)) := by
  induction d with
  | zero =>
    intro k i hd
    rw [show k + 0 + 1 = k + 1 from rfl, cordonref02_Same.l0, if_neg (by omega), ordL_end l0 l1 i (by omega) (by omega)]
    rfl
  | succ d ih =>
    intro k i hd
    rw [show k + (d + 1) + 1 = (k + d + 1) + 1 from by omega, cordonref02_Same.l0, if_pos (by omega), if_pos (by omega), if_pos (by omega), ordL_step l0 l1 i (by omega) (by omega), wrap_next i (by omega), ih k (i + 1) (by omega)]
    have z := lin_val.zero (rd_T33 l0 i) (rd_T33 l1 i)
    unfold sameV at z
    by_cases h : ordS (rd_T33 l0 i) (rd_T33 l1 i) = 0
    · obtain ⟨h1, h2, h3⟩ := z.1 h
      rw [if_neg (by simp [h1, h2, h3]), if_pos h]
    · rw [if_pos, if_neg h]
      · simp [h]
      · have h9 : ¬ ((rd_T33 l0 i).f0 = (rd_T33 l1 i).f0 ∧ (rd_T33 l0 i).f1 = (rd_T33 l1 i).f1 ∧ (rd_T33 l0 i).f2.toList = (rd_T33 l1 i).f2.toList) := fun q => h (z.2 q)
        simp only [Bool.or_eq_true, Bool.not_eq_true', beq_eq_false_iff_ne, ne_eq]
        by_cases g1 : (rd_T33 l0 i).f0 = (rd_T33 l1 i).f0
        · by_cases g2 : (rd_T33 l0 i).f1 = (rd_T33 l1 i).f1
          · exact .inr (.inr fun g3 => h9 ⟨g1, g2, g3⟩)
          · exact .inr (.inl g2)
        · exact .inl g1
theorem ordL_len : ∀ a b : List S33, ordL a b = 0 → a.length = b.length
  | [], [], _ => rfl
  | [], _ :: _, h => by simp [ordL] at h
  | _ :: _, [], h => by simp [ordL] at h
  | x :: a, y :: b, h => by
    unfold ordL at h
    by_cases g : ordS x y = 0
    · rw [if_pos g] at h
      simp [ordL_len a b h]
    · rw [if_neg g] at h; exact absurd h g
theorem same_is (l0 l1 : List S33) (hl : l0.length ≤ 60) (k : Nat) : cordonref02_Same.f (k + 61) l0 l1 = some (decide (ordL l0 l1 = 0)) := by
  unfold cordonref02_Same.f
  by_cases h : l0.length = l1.length
  · have := same_l0 l0 l1 hl h l0.length (k + (60 - l0.length)) 0 (by omega)
    rw [show k + (60 - l0.length) + l0.length + 1 = k + 61 from by omega, Int.natCast_zero] at this
    rw [if_pos (by omega), this]; rfl
  · rw [if_neg (by omega), decide_eq_false (fun q => h (ordL_len _ _ q))]
end Go.Proofs.Ythghflgmeepnlaa.Pure
end
section
namespace Go.Proofs.Ythghflgmeepnlaa.Pa
open Go.RowKit Go.Proofs.YthghflgmeepnlaaW.PrintWords Go.Proofs.YthghflgmeepnlaaW.PrintLast Go.Proofs.YthghflgmeepnlaaW.PrintMore
attribute [local go_sem] max2_int max_two
set_option linter.unusedVariables false
set_option linter.unusedSimpArgs false
def cordonlaw01_Right.f (k : Nat) (a0_0 : Int) (a0_1 : Int) (a0_2 : ByteArray) : Option (Bool) := (cordonref01_Right.f k a0_0 a0_1 a0_2).bind fun t226 => (some (t226 == 0))
theorem cordonlaw01_Right.mono : ∀ a0 a1 a2 k, LeO (cordonlaw01_Right.f k a0 a1 a2) (cordonlaw01_Right.f (k + 1) a0 a1 a2) := by
  intro a0 a1 a2 k
  unfold cordonlaw01_Right.f
  repeat' first
      | (with_reducible exact cordonref01_Right.mono _ _ _ _)
      | (with_reducible exact LeO.refl _)
      | (with_reducible exact LeO.none _)
      | (with_reducible refine LeO.ite ?_ ?_)
      | (with_reducible refine LeO.bind ?_ (fun _ => ?_))
      | exact cordonref01_Right.mono _ _ _ _
      | exact LeO.none _
      | refine LeO.ite ?_ ?_
      | refine LeO.bind ?_ (fun _ => ?_)
set_option maxHeartbeats 8000000 in
set_option maxRecDepth 100000 in
theorem cordonlaw01_Right.calls (k : Nat) (a0_0 : Int) (a0_1 : Int) (a0_2 : ByteArray) (r : Bool) (w : World) (h : cordonlaw01_Right.f k a0_0 a0_1 a0_2 = some r) :
    Calls Try.prog 24 #[.agg #[.int .i64 a0_0, .int .i64 a0_1, .string a0_2]] w fun e w' => e = .returned (.bool r) ∧ Below w.heap.size w w' := by
  have hu33 := Try.underlying33
  have HB := Aside0.mk (Below.refl w.heap.size w)
  have H : ((cordonref01_Right.f k a0_0 a0_1 a0_2).bind fun t226 => (some (t226 == 0))) = some r := h
  clear h
  replace H := Option.bind_eq_some_iff.mp H
  obtain ⟨t226, A20, H⟩ := H
  replace H : (some (t226 == 0)) = some r := H
  have A2 := Aside0.mk A20
  clear A20
  obtain rfl := Option.some.inj H
  go_enter Try.func24, Try.ntmps24
  go_wp2_with (first | ((with_reducible refine gate_dst (N := 1) rfl ?_); refine box_event ?hg (N := 1) ?hd (cs := #[.int .i64 a0_0, .int .i64 a0_1, .string a0_2]) (t := 33) ?hr ?_; (case hd => rfl); (case hg => rfl); (case hr => first | (go_simp; done) | (go_simp; rfl)); intro gb225 hg w3 hbox hb; have n0_ := Aside0.mk (below_step (by repeat (first | (with_reducible first | exact HB.out | apply below_alloc | apply pw_below_drewN | apply below_drew1) | exact HB.out)) hb); have n1_ := Aside0.mk (hbox); have n2_ := Aside0.mk ((by rw [hg]; exact (below_size (by repeat (first | (with_reducible first | exact HB.out | apply below_alloc | apply pw_below_drewN | apply below_drew1) | exact HB.out))) : w.heap.size ≤ gb225)); have n3_ := Aside0.mk ((by rw [hg]; exact (below_size (by repeat (first | (with_reducible first | exact HB.out | apply below_alloc | apply pw_below_drewN | apply below_drew1) | exact HB.out))) : w.heap.size ≤ gb225)); clear HB; have HB := n0_; have BK225 := n1_; have GW225 := n2_; have GE225 := n3_; clear n0_ n1_ n2_ n3_; clear hb hbox hg; have hcz4_0 : w3.cell? ⟨gb225, 0, none⟩ = some (.int .i64 a0_0) := (blk_cell BK225.out 0).trans rfl; have hcz4_1 : w3.cell? ⟨gb225, 1, none⟩ = some (.int .i64 a0_1) := (blk_cell BK225.out 1).trans rfl; have hcz4_2 : w3.cell? ⟨gb225, 2, none⟩ = some (.string a0_2) := (blk_cell BK225.out 2).trans rfl; have hfz4_0 := blk_frozen BK225.out 0; have hfz4_1 := blk_frozen BK225.out 1; have hfz4_2 := blk_frozen BK225.out 2) | ((with_reducible refine gate_callee (f := 40) rfl ?_); refine goesL_ (some 4) rfl rfl Try.func40 (by kernel_rfl) rfl #[.agg #[.int .i64 a0_0, .int .i64 a0_1, .string a0_2]] rfl (by (try simp only [List.map_toArray, List.map_cons, List.map_nil]); first | done | rfl | (simp only [List.length_drop, List.length_take]; rfl)) ?_; (with_reducible refine (cordonref01_Right.calls k a0_0 a0_1 a0_2 t226 _ A2.out).mono ?_); rintro e w5 ⟨rfl, hb⟩; refine ⟨_, rfl, ?_⟩; have n0_ := Aside0.mk (blk_below (g := gb225) (o := .cells #[.int .i64 a0_0, .int .i64 a0_1, .string a0_2] 33 (0, 0)) (by (with_reducible repeat (first | refine blk_drewN ?_ _ | refine blk_drew ?_ | refine blk_alloc ?_ _)); exact BK225.out) hb); have n1_ := Aside0.mk (below_step (by repeat (first | (with_reducible first | exact HB.out | apply below_alloc | apply pw_below_drewN | apply below_drew1 | refine below_set ?_ GE225.out) | exact HB.out)) hb); clear BK225; clear HB; have BK225 := n0_; have HB := n1_; clear n0_ n1_; (try clear hb); (try clear hb2); (try clear hk); (try clear hi)))
  go_ret
  exact ⟨by first | rfl | (simp [errW_none, errW_some] <;> rfl) | (simp [*, errW_none, errW_some] <;> rfl), by repeat (first | (with_reducible first | exact HB.out | apply below_alloc | apply pw_below_drewN | apply below_drew1 | refine below_set ?_ GE225.out) | exact HB.out)⟩
end Go.Proofs.Ythghflgmeepnlaa.Pa
end
section
namespace Go.Proofs.Ythghflgmeepnlaa.Pa
open Go.RowKit Go.Proofs.YthghflgmeepnlaaW.PrintWords Go.Proofs.YthghflgmeepnlaaW.PrintLast Go.Proofs.YthghflgmeepnlaaW.PrintMore
attribute [local go_sem] max2_int max_two
set_option linter.unusedVariables false
set_option linter.unusedSimpArgs false
mutual
def cordonlaw11_Few.l0 : Nat → List (List (List (S33))) → Int → Int → Option (Bool)
  | 0, _, _, _ => none
  | k + 1, x9, x10, x11 => if x11 < x10 then (if 0 ≤ x11 then (if x11 < (x9.length : Int) then (if ((rd_L5 x9 x11).length : Int) > 40 then (some false) else (cordonlaw11_Few.l1 k x9 x10 x11 (rd_L5 x9 x11) ((rd_L5 x9 x11).length : Int) 0)) else (none)) else (none)) else (some true)
def cordonlaw11_Few.l1 : Nat → List (List (List (S33))) → Int → Int → List (List (S33)) → Int → Int → Option (Bool)
  | 0, _, _, _, _, _, _ => none
  | k + 1, x9, x10, x11, x18, x19, x20 => if x20 < x19 then (if 0 ≤ x20 then (if x20 < (x18.length : Int) then (if ((rd_L4 x18 x20).length : Int) > 40 then (some false) else (cordonlaw11_Few.l2 k x9 x10 x11 x18 x19 x20 (rd_L4 x18 x20) ((rd_L4 x18 x20).length : Int) 0)) else (none)) else (none)) else (cordonlaw11_Few.l0 k x9 x10 (wrap64 (x11 + 1)))
def cordonlaw11_Few.l2 : Nat → List (List (List (S33))) → Int → Int → List (List (S33)) → Int → Int → List (S33) → Int → Int → Option (Bool)
  | 0, _, _, _, _, _, _, _, _, _ => none
  | k + 1, x9, x10, x11, x18, x19, x20, x27, x28, x29 => if x29 < x28 then (if 0 ≤ x29 then (if x29 < (x27.length : Int) then ((cordonlaw01_Right.f k ((rd_T33 x27 x29).f0) ((rd_T33 x27 x29).f1) ((rd_T33 x27 x29).f2)).bind fun t583 => (if t583 = true then (cordonlaw11_Few.l2 k x9 x10 x11 x18 x19 x20 x27 x28 (wrap64 (x29 + 1))) else (some false))) else (none)) else (none)) else (cordonlaw11_Few.l1 k x9 x10 x11 x18 x19 (wrap64 (x20 + 1)))
end
def cordonlaw11_Few.f (k : Nat) (l0 : List (List (List (S33)))) : Option (Bool) := cordonlaw11_Few.l0 k l0 (l0.length : Int) 0
theorem cordonlaw11_Few.mono_l : ∀ k, (∀ y0 y1 y2, LeO (cordonlaw11_Few.l0 k y0 y1 y2) (cordonlaw11_Few.l0 (k + 1) y0 y1 y2)) ∧ (∀ y0 y1 y2 y3 y4 y5, LeO (cordonlaw11_Few.l1 k y0 y1 y2 y3 y4 y5) (cordonlaw11_Few.l1 (k + 1) y0 y1 y2 y3 y4 y5)) ∧ (∀ y0 y1 y2 y3 y4 y5 y6 y7 y8, LeO (cordonlaw11_Few.l2 k y0 y1 y2 y3 y4 y5 y6 y7 y8) (cordonlaw11_Few.l2 (k + 1) y0 y1 y2 y3 y4 y5 y6 y7 y8))
  | 0 => ⟨fun _ _ _ r h => by simp [cordonlaw11_Few.l0] at h, fun _ _ _ _ _ _ r h => by simp [cordonlaw11_Few.l1] at h, fun _ _ _ _ _ _ _ _ _ r h => by simp [cordonlaw11_Few.l2] at h⟩
  | k + 1 => by
    obtain ⟨ih0, ih1, ih2⟩ := cordonlaw11_Few.mono_l k
    refine ⟨?_, ?_, ?_⟩
    · intro y0 y1 y2
      unfold cordonlaw11_Few.l0
      repeat' first
      | (with_reducible exact ih0 _ _ _)
      | (with_reducible exact ih1 _ _ _ _ _ _)
      | (with_reducible exact ih2 _ _ _ _ _ _ _ _ _)
      | (with_reducible exact cordonlaw01_Right.mono _ _ _ _)
      | (with_reducible exact LeO.refl _)
      | (with_reducible exact LeO.none _)
      | (with_reducible refine LeO.ite ?_ ?_)
      | (with_reducible refine LeO.bind ?_ (fun _ => ?_))
      | exact ih0 _ _ _
      | exact ih1 _ _ _ _ _ _
      | exact ih2 _ _ _ _ _ _ _ _ _
      | exact cordonlaw01_Right.mono _ _ _ _
      | exact LeO.none _
      | refine LeO.ite ?_ ?_
      | refine LeO.bind ?_ (fun _ => ?_)
    · intro y0 y1 y2 y3 y4 y5
      unfold cordonlaw11_Few.l1
      repeat' first
      | (with_reducible exact ih0 _ _ _)
      | (with_reducible exact ih1 _ _ _ _ _ _)
      | (with_reducible exact ih2 _ _ _ _ _ _ _ _ _)
      | (with_reducible exact cordonlaw01_Right.mono _ _ _ _)
      | (with_reducible exact LeO.refl _)
      | (with_reducible exact LeO.none _)
      | (with_reducible refine LeO.ite ?_ ?_)
      | (with_reducible refine LeO.bind ?_ (fun _ => ?_))
      | exact ih0 _ _ _
      | exact ih1 _ _ _ _ _ _
      | exact ih2 _ _ _ _ _ _ _ _ _
      | exact cordonlaw01_Right.mono _ _ _ _
      | exact LeO.none _
      | refine LeO.ite ?_ ?_
      | refine LeO.bind ?_ (fun _ => ?_)
    · intro y0 y1 y2 y3 y4 y5 y6 y7 y8
      unfold cordonlaw11_Few.l2
      repeat' first
      | (with_reducible exact ih0 _ _ _)
      | (with_reducible exact ih1 _ _ _ _ _ _)
      | (with_reducible exact ih2 _ _ _ _ _ _ _ _ _)
      | (with_reducible exact cordonlaw01_Right.mono _ _ _ _)
      | (with_reducible exact LeO.refl _)
      | (with_reducible exact LeO.none _)
      | (with_reducible refine LeO.ite ?_ ?_)
      | (with_reducible refine LeO.bind ?_ (fun _ => ?_))
      | exact ih0 _ _ _
      | exact ih1 _ _ _ _ _ _
      | exact ih2 _ _ _ _ _ _ _ _ _
      | exact cordonlaw01_Right.mono _ _ _ _
      | exact LeO.none _
      | refine LeO.ite ?_ ?_
      | refine LeO.bind ?_ (fun _ => ?_)
set_option maxHeartbeats 8000000 in
set_option maxRecDepth 100000 in
theorem cordonlaw11_Few.calls (k : Nat) (A0 : Option Addr) (c0 : Nat) (l0 : List (List (List (S33)))) (r : Bool) (w : World) (hr0 : Kd.C (Kd.slice 22 (Kd.slice 33 k33)) w A0 l0.length l0) (hc0 : l0.length ≤ c0) (h : cordonlaw11_Few.f k l0 = some r) :
    Calls Try.prog 54 #[.slice A0 l0.length c0] w fun e w' => e = .returned (.bool r) ∧ Below w.heap.size w w' := by
  have hu33 := Try.underlying33
  have HR0 := Aside0.mk hr0
  have HC0 := Aside0.mk hc0
  clear hr0 hc0
  have HB := Aside0.mk (Below.refl w.heap.size w)
  have H : (cordonlaw11_Few.l0 k l0 (l0.length : Int) 0) = some r := h
  clear h
  have H' := Aside0.mk H
  clear H
  go_enter Try.func54, Try.ntmps54
  go_wp2
  go_loopg [11] k (fun kq v11 w' => ∃ (x11_1 : Int), v11 = .int .i64 x11_1 ∧ Aside0 (cordonlaw11_Few.l0 kq l0 (l0.length : Int) x11_1 = some r) ∧ Aside0 (kq ≤ k) ∧ Aside0 (Below w.heap.size w w'))
  case atStart => exact ⟨(0), (by first | rfl | (simp; done) | (simp [*]; done)), H', ⟨Nat.le_refl _⟩, ⟨by repeat (first | (with_reducible first | exact HB.out | apply below_alloc | apply pw_below_drewN | apply below_drew1) | exact HB.out)⟩⟩
  case round =>
    clear H'
    obtain ⟨x11_1, rfl, HA, HK1, HB⟩ := hrel
    cases gk with
    | zero => exact absurd HA.out (by simp [cordonlaw11_Few.l0])
    | succ k1 =>
      have H := HA.out
      clear HA
      simp only [cordonlaw11_Few.l0] at H
      by_cases c2 : x11_1 < (l0.length : Int)
      · rw [if_pos c2] at H
        have c2b0 : decide (x11_1 < (l0.length : Int)) = true := decide_eq_true c2
        clear c2
        by_cases c3 : 0 ≤ x11_1
        · rw [if_pos c3] at H
          have c3b0 : decide (0 ≤ x11_1) = true := decide_eq_true c3
          clear c3
          by_cases c4 : x11_1 < (l0.length : Int)
          · rw [if_pos c4] at H
            have c4b0 : decide (x11_1 < (l0.length : Int)) = true := decide_eq_true c4
            clear c4
            by_cases c5 : ((rd_L5 l0 x11_1).length : Int) > 40
            · rw [if_pos c5] at H
              have c5b0 : decide (40 < ((rd_L5 l0 x11_1).length : Int)) = true := decide_eq_true c5
              have c5b1 : decide (40 < (rd_L5 l0 x11_1).length) = true := decide_eq_true (by omega)
              clear c5
              obtain rfl := Option.some.inj H
              have p579 : 0 ≤ (x11_1 : Int) := of_decide_eq_true (by first | (with_reducible assumption) | assumption)
              have q579 : x11_1 < (l0.length : Int) := of_decide_eq_true (by first | (with_reducible assumption) | assumption)
              obtain ⟨ad579, A579_0, c579_0, e579, hx579_0, hl579_0, hi579_0⟩ := at_L5 HR0.out x11_1 p579 q579
              cases e579
              replace hx579_0 := (HB.out.cell (World.block_lt_of_cell? w _ hx579_0)).trans hx579_0
              have HR579_0 := Aside0.mk hi579_0
              have HC579_0 := Aside0.mk hl579_0
              clear hi579_0 hl579_0
              replace p579 := eq_true p579
              replace q579 := eq_true q579
              go_wp2
              go_ret
              exact ⟨by first | rfl | (simp [errW_none, errW_some] <;> rfl) | (simp [*, errW_none, errW_some] <;> rfl), by repeat (first | (with_reducible first | exact HB.out | apply below_alloc | apply pw_below_drewN | apply below_drew1) | exact HB.out)⟩
            · rw [if_neg c5] at H
              have c5b0 : decide (40 < ((rd_L5 l0 x11_1).length : Int)) = false := decide_eq_false c5
              have c5b1 : decide (40 < (rd_L5 l0 x11_1).length) = false := decide_eq_false (by omega)
              clear c5
              have H' := Aside0.mk H
              clear H
              have p579 : 0 ≤ (x11_1 : Int) := of_decide_eq_true (by first | (with_reducible assumption) | assumption)
              have q579 : x11_1 < (l0.length : Int) := of_decide_eq_true (by first | (with_reducible assumption) | assumption)
              obtain ⟨ad579, A579_0, c579_0, e579, hx579_0, hl579_0, hi579_0⟩ := at_L5 HR0.out x11_1 p579 q579
              cases e579
              replace hx579_0 := (HB.out.cell (World.block_lt_of_cell? w _ hx579_0)).trans hx579_0
              have HR579_0 := Aside0.mk hi579_0
              have HC579_0 := Aside0.mk hl579_0
              clear hi579_0 hl579_0
              replace p579 := eq_true p579
              replace q579 := eq_true q579
              go_wp2
              go_loopg [20] k1 (fun kq v20 w' => ∃ (x20_2 : Int), v20 = .int .i64 x20_2 ∧ Aside0 (cordonlaw11_Few.l1 kq l0 (l0.length : Int) x11_1 (rd_L5 l0 x11_1) ((rd_L5 l0 x11_1).length : Int) x20_2 = some r) ∧ Aside0 (kq ≤ k1) ∧ Aside0 (Below w.heap.size w w'))
              case atStart => exact ⟨(0), (by first | rfl | (simp; done) | (simp [*]; done)), H', ⟨Nat.le_refl _⟩, ⟨by repeat (first | (with_reducible first | exact HB.out | apply below_alloc | apply pw_below_drewN | apply below_drew1) | exact HB.out)⟩⟩
              case round =>
                clear H'
                try clear c2
                try clear c2b0
                try clear p2
                try clear c3
                try clear c3b0
                try clear c4
                try clear c4b0
                try clear c5
                try clear c5b0
                try clear c5b1
                try clear p5
                try clear q5
                try clear hx5
                try clear hx579_0
                try clear p579
                try clear q579
                obtain ⟨x20_2, rfl, HA, HK2, HB⟩ := hrel
                cases gk with
                | zero => exact absurd HA.out (by simp [cordonlaw11_Few.l1])
                | succ k2 =>
                  have H := HA.out
                  clear HA
                  simp only [cordonlaw11_Few.l1] at H
                  by_cases c6 : x20_2 < ((rd_L5 l0 x11_1).length : Int)
                  · rw [if_pos c6] at H
                    have c6b0 : decide (x20_2 < ((rd_L5 l0 x11_1).length : Int)) = true := decide_eq_true c6
                    clear c6
                    by_cases c7 : 0 ≤ x20_2
                    · rw [if_pos c7] at H
                      have c7b0 : decide (0 ≤ x20_2) = true := decide_eq_true c7
                      clear c7
                      by_cases c8 : x20_2 < ((rd_L5 l0 x11_1).length : Int)
                      · rw [if_pos c8] at H
                        have c8b0 : decide (x20_2 < ((rd_L5 l0 x11_1).length : Int)) = true := decide_eq_true c8
                        clear c8
                        by_cases c9 : ((rd_L4 (rd_L5 l0 x11_1) x20_2).length : Int) > 40
                        · rw [if_pos c9] at H
                          have c9b0 : decide (40 < ((rd_L4 (rd_L5 l0 x11_1) x20_2).length : Int)) = true := decide_eq_true c9
                          have c9b1 : decide (40 < (rd_L4 (rd_L5 l0 x11_1) x20_2).length) = true := decide_eq_true (by omega)
                          clear c9
                          obtain rfl := Option.some.inj H
                          have p580 : 0 ≤ (x20_2 : Int) := of_decide_eq_true (by first | (with_reducible assumption) | assumption)
                          have q580 : x20_2 < ((rd_L5 l0 x11_1).length : Int) := of_decide_eq_true (by first | (with_reducible assumption) | assumption)
                          obtain ⟨ad580, A580_0, c580_0, e580, hx580_0, hl580_0, hi580_0⟩ := at_L4 HR579_0.out x20_2 p580 q580
                          cases e580
                          replace hx580_0 := (HB.out.cell (World.block_lt_of_cell? w _ hx580_0)).trans hx580_0
                          have HR580_0 := Aside0.mk hi580_0
                          have HC580_0 := Aside0.mk hl580_0
                          clear hi580_0 hl580_0
                          replace p580 := eq_true p580
                          replace q580 := eq_true q580
                          go_wp2
                          go_ret
                          exact ⟨by first | rfl | (simp [errW_none, errW_some] <;> rfl) | (simp [*, errW_none, errW_some] <;> rfl), by repeat (first | (with_reducible first | exact HB.out | apply below_alloc | apply pw_below_drewN | apply below_drew1) | exact HB.out)⟩
                        · rw [if_neg c9] at H
                          have c9b0 : decide (40 < ((rd_L4 (rd_L5 l0 x11_1) x20_2).length : Int)) = false := decide_eq_false c9
                          have c9b1 : decide (40 < (rd_L4 (rd_L5 l0 x11_1) x20_2).length) = false := decide_eq_false (by omega)
                          clear c9
                          have H' := Aside0.mk H
                          clear H
                          have p580 : 0 ≤ (x20_2 : Int) := of_decide_eq_true (by first | (with_reducible assumption) | assumption)
                          have q580 : x20_2 < ((rd_L5 l0 x11_1).length : Int) := of_decide_eq_true (by first | (with_reducible assumption) | assumption)
                          obtain ⟨ad580, A580_0, c580_0, e580, hx580_0, hl580_0, hi580_0⟩ := at_L4 HR579_0.out x20_2 p580 q580
                          cases e580
                          replace hx580_0 := (HB.out.cell (World.block_lt_of_cell? w _ hx580_0)).trans hx580_0
                          have HR580_0 := Aside0.mk hi580_0
                          have HC580_0 := Aside0.mk hl580_0
                          clear hi580_0 hl580_0
                          replace p580 := eq_true p580
                          replace q580 := eq_true q580
                          go_wp2
                          go_loopg [29] k2 (fun kq v29 w' => ∃ (x29_3 : Int), v29 = .int .i64 x29_3 ∧ Aside0 (cordonlaw11_Few.l2 kq l0 (l0.length : Int) x11_1 (rd_L5 l0 x11_1) ((rd_L5 l0 x11_1).length : Int) x20_2 (rd_L4 (rd_L5 l0 x11_1) x20_2) ((rd_L4 (rd_L5 l0 x11_1) x20_2).length : Int) x29_3 = some r) ∧ Aside0 (kq ≤ k2) ∧ Aside0 (Below w.heap.size w w'))
                          case atStart => exact ⟨(0), (by first | rfl | (simp; done) | (simp [*]; done)), H', ⟨Nat.le_refl _⟩, ⟨by repeat (first | (with_reducible first | exact HB.out | apply below_alloc | apply pw_below_drewN | apply below_drew1) | exact HB.out)⟩⟩
                          case round =>
                            clear H'
                            try clear c2
                            try clear c2b0
                            try clear p2
                            try clear c3
                            try clear c3b0
                            try clear c4
                            try clear c4b0
                            try clear c5
                            try clear c5b0
                            try clear c5b1
                            try clear p5
                            try clear q5
                            try clear hx5
                            try clear c6
                            try clear c6b0
                            try clear c7
                            try clear c7b0
                            try clear c8
                            try clear c8b0
                            try clear c9
                            try clear c9b0
                            try clear c9b1
                            try clear hx579_0
                            try clear hx580_0
                            try clear p2
                            try clear p5
                            try clear p579
                            try clear p580
                            try clear q5
                            try clear q579
                            try clear q580
                            obtain ⟨x29_3, rfl, HA, HK3, HB⟩ := hrel
                            cases gk with
                            | zero => exact absurd HA.out (by simp [cordonlaw11_Few.l2])
                            | succ k3 =>
                              have H := HA.out
                              clear HA
                              simp only [cordonlaw11_Few.l2] at H
                              by_cases c10 : x29_3 < ((rd_L4 (rd_L5 l0 x11_1) x20_2).length : Int)
                              · rw [if_pos c10] at H
                                have c10b0 : decide (x29_3 < ((rd_L4 (rd_L5 l0 x11_1) x20_2).length : Int)) = true := decide_eq_true c10
                                clear c10
                                by_cases c11 : 0 ≤ x29_3
                                · rw [if_pos c11] at H
                                  have c11b0 : decide (0 ≤ x29_3) = true := decide_eq_true c11
                                  clear c11
                                  by_cases c12 : x29_3 < ((rd_L4 (rd_L5 l0 x11_1) x20_2).length : Int)
                                  · rw [if_pos c12] at H
                                    have c12b0 : decide (x29_3 < ((rd_L4 (rd_L5 l0 x11_1) x20_2).length : Int)) = true := decide_eq_true c12
                                    clear c12
                                    replace H := Option.bind_eq_some_iff.mp H
                                    obtain ⟨t583, A130, H⟩ := H
                                    replace H : (if t583 = true then (cordonlaw11_Few.l2 k3 l0 (l0.length : Int) x11_1 (rd_L5 l0 x11_1) ((rd_L5 l0 x11_1).length : Int) x20_2 (rd_L4 (rd_L5 l0 x11_1) x20_2) ((rd_L4 (rd_L5 l0 x11_1) x20_2).length : Int) (wrap64 (x29_3 + 1))) else (some false)) = some r := H
                                    have A13 := Aside0.mk A130
                                    clear A130
                                    by_cases c14 : t583 = true
                                    · subst c14
                                      have H1 : (cordonlaw11_Few.l2 k3 l0 (l0.length : Int) x11_1 (rd_L5 l0 x11_1) ((rd_L5 l0 x11_1).length : Int) x20_2 (rd_L4 (rd_L5 l0 x11_1) x20_2) ((rd_L4 (rd_L5 l0 x11_1) x20_2).length : Int) (wrap64 (x29_3 + 1))) = some r := by rw [if_pos rfl] at H; exact H
                                      clear H
                                      have H := H1
                                      clear H1
                                      have H' := Aside0.mk H
                                      clear H
                                      have p581 : 0 ≤ (x29_3 : Int) := of_decide_eq_true (by first | (with_reducible assumption) | assumption)
                                      have q581 : x29_3 < ((rd_L4 (rd_L5 l0 x11_1) x20_2).length : Int) := of_decide_eq_true (by first | (with_reducible assumption) | assumption)
                                      obtain ⟨ad581, e581, hx581_0, hx581_1, hx581_2⟩ := at_T33 HR580_0.out x29_3 p581 q581
                                      cases e581
                                      replace hx581_0 := (HB.out.cell (World.block_lt_of_cell? w _ hx581_0)).trans hx581_0
                                      replace hx581_1 := (HB.out.cell (World.block_lt_of_cell? w _ hx581_1)).trans hx581_1
                                      replace hx581_2 := (HB.out.cell (World.block_lt_of_cell? w _ hx581_2)).trans hx581_2
                                      replace p581 := eq_true p581
                                      replace q581 := eq_true q581
                                      go_wp2_with (first | ((with_reducible refine gate_dst (N := 8) rfl ?_); refine box_event ?hg (N := 8) ?hd (cs := #[.int .i64 0, .int .i64 0, .string (⟨#[]⟩ : ByteArray)]) (t := 33) ?hr ?_; (case hd => rfl); (case hg => rfl); (case hr => first | (go_simp; done) | (go_simp; rfl)); intro gb582 hg w15 hbox hb; have n0_ := Aside0.mk (below_step (by repeat (first | (with_reducible first | exact HB.out | apply below_alloc | apply pw_below_drewN | apply below_drew1) | exact HB.out)) hb); have n1_ := Aside0.mk (hbox); have n2_ := Aside0.mk ((by rw [hg]; exact (below_size (by repeat (first | (with_reducible first | exact HB.out | apply below_alloc | apply pw_below_drewN | apply below_drew1) | exact HB.out))) : w.heap.size ≤ gb582)); have n3_ := Aside0.mk ((by rw [hg]; exact (below_size (by repeat (first | (with_reducible first | exact HB.out | apply below_alloc | apply pw_below_drewN | apply below_drew1) | exact HB.out))) : w.heap.size ≤ gb582)); clear HB; have HB := n0_; have BK582 := n1_; have GW582 := n2_; have GE582 := n3_; clear n0_ n1_ n2_ n3_; clear hb hbox hg; have hcz16_0 : w15.cell? ⟨gb582, 0, none⟩ = some (.int .i64 0) := (blk_cell BK582.out 0).trans rfl; have hcz16_1 : w15.cell? ⟨gb582, 1, none⟩ = some (.int .i64 0) := (blk_cell BK582.out 1).trans rfl; have hcz16_2 : w15.cell? ⟨gb582, 2, none⟩ = some (.string (⟨#[]⟩ : ByteArray)) := (blk_cell BK582.out 2).trans rfl; have hfz16_0 := blk_frozen BK582.out 0; have hfz16_1 := blk_frozen BK582.out 1; have hfz16_2 := blk_frozen BK582.out 2) | ((with_reducible refine gate_callee (f := 24) rfl ?_); refine goesL_ (some 34) rfl rfl Try.func24 (by kernel_rfl) rfl #[.agg #[.int .i64 ((rd_T33 (rd_L4 (rd_L5 l0 x11_1) x20_2) x29_3).f0), .int .i64 ((rd_T33 (rd_L4 (rd_L5 l0 x11_1) x20_2) x29_3).f1), .string ((rd_T33 (rd_L4 (rd_L5 l0 x11_1) x20_2) x29_3).f2)]] rfl (by (try simp only [List.map_toArray, List.map_cons, List.map_nil]); first | done | rfl | (simp only [List.length_drop, List.length_take]; rfl)) ?_; (with_reducible refine (cordonlaw01_Right.calls k3 ((rd_T33 (rd_L4 (rd_L5 l0 x11_1) x20_2) x29_3).f0) ((rd_T33 (rd_L4 (rd_L5 l0 x11_1) x20_2) x29_3).f1) ((rd_T33 (rd_L4 (rd_L5 l0 x11_1) x20_2) x29_3).f2) true _ A13.out).mono ?_); rintro e w17 ⟨rfl, hb⟩; refine ⟨_, rfl, ?_⟩; have n0_ := Aside0.mk (blk_below (g := gb582) (o := .cells #[.int .i64 ((rd_T33 (rd_L4 (rd_L5 l0 x11_1) x20_2) x29_3).f0), .int .i64 ((rd_T33 (rd_L4 (rd_L5 l0 x11_1) x20_2) x29_3).f1), .string ((rd_T33 (rd_L4 (rd_L5 l0 x11_1) x20_2) x29_3).f2)] 33 (0, 0)) (by (with_reducible repeat (first | refine blk_drewN ?_ _ | refine blk_drew ?_ | refine blk_alloc ?_ _)); refine blk_put (cs := #[.int .i64 ((rd_T33 (rd_L4 (rd_L5 l0 x11_1) x20_2) x29_3).f0), .int .i64 ((rd_T33 (rd_L4 (rd_L5 l0 x11_1) x20_2) x29_3).f1), .string (⟨#[]⟩ : ByteArray)]) ?_ 2 _ rfl; (with_reducible repeat (first | refine blk_drewN ?_ _ | refine blk_drew ?_ | refine blk_alloc ?_ _)); refine blk_put (cs := #[.int .i64 ((rd_T33 (rd_L4 (rd_L5 l0 x11_1) x20_2) x29_3).f0), .int .i64 0, .string (⟨#[]⟩ : ByteArray)]) ?_ 1 _ rfl; (with_reducible repeat (first | refine blk_drewN ?_ _ | refine blk_drew ?_ | refine blk_alloc ?_ _)); refine blk_put (cs := #[.int .i64 0, .int .i64 0, .string (⟨#[]⟩ : ByteArray)]) ?_ 0 _ rfl; (with_reducible repeat (first | refine blk_drewN ?_ _ | refine blk_drew ?_ | refine blk_alloc ?_ _)); exact BK582.out) hb); have n1_ := Aside0.mk (below_step (by repeat (first | (with_reducible first | exact HB.out | apply below_alloc | apply pw_below_drewN | apply below_drew1 | refine below_set ?_ GE582.out) | exact HB.out)) hb); clear BK582; clear HB; have BK582 := n0_; have HB := n1_; clear n0_ n1_; (try clear hb); (try clear hb2); (try clear hk); (try clear hi)))
                                      go_roundg k3
                                      case measure => have := HK1.out; have := HK2.out; have := HK3.out; omega
                                      case rel => exact ⟨(wrap64 (x29_3 + 1)), (by first | rfl | (simp; done) | (simp [*]; done)), H', ⟨by have := HK1.out; have := HK2.out; have := HK3.out; omega⟩, ⟨by repeat (first | (with_reducible first | exact HB.out | apply below_alloc | apply pw_below_drewN | apply below_drew1 | refine below_set ?_ GE582.out) | exact HB.out)⟩⟩
                                    · replace c14 := Bool.eq_false_iff.mpr c14
                                      subst c14
                                      have H1 : (some false) = some r := by rw [if_neg (show ¬ (false = true) by decide)] at H; exact H
                                      clear H
                                      have H := H1
                                      clear H1
                                      obtain rfl := Option.some.inj H
                                      have p581 : 0 ≤ (x29_3 : Int) := of_decide_eq_true (by first | (with_reducible assumption) | assumption)
                                      have q581 : x29_3 < ((rd_L4 (rd_L5 l0 x11_1) x20_2).length : Int) := of_decide_eq_true (by first | (with_reducible assumption) | assumption)
                                      obtain ⟨ad581, e581, hx581_0, hx581_1, hx581_2⟩ := at_T33 HR580_0.out x29_3 p581 q581
                                      cases e581
                                      replace hx581_0 := (HB.out.cell (World.block_lt_of_cell? w _ hx581_0)).trans hx581_0
                                      replace hx581_1 := (HB.out.cell (World.block_lt_of_cell? w _ hx581_1)).trans hx581_1
                                      replace hx581_2 := (HB.out.cell (World.block_lt_of_cell? w _ hx581_2)).trans hx581_2
                                      replace p581 := eq_true p581
                                      replace q581 := eq_true q581
                                      go_wp2_with (first | ((with_reducible refine gate_dst (N := 8) rfl ?_); refine box_event ?hg (N := 8) ?hd (cs := #[.int .i64 0, .int .i64 0, .string (⟨#[]⟩ : ByteArray)]) (t := 33) ?hr ?_; (case hd => rfl); (case hg => rfl); (case hr => first | (go_simp; done) | (go_simp; rfl)); intro gb582 hg w18 hbox hb; have n0_ := Aside0.mk (below_step (by repeat (first | (with_reducible first | exact HB.out | apply below_alloc | apply pw_below_drewN | apply below_drew1) | exact HB.out)) hb); have n1_ := Aside0.mk (hbox); have n2_ := Aside0.mk ((by rw [hg]; exact (below_size (by repeat (first | (with_reducible first | exact HB.out | apply below_alloc | apply pw_below_drewN | apply below_drew1) | exact HB.out))) : w.heap.size ≤ gb582)); have n3_ := Aside0.mk ((by rw [hg]; exact (below_size (by repeat (first | (with_reducible first | exact HB.out | apply below_alloc | apply pw_below_drewN | apply below_drew1) | exact HB.out))) : w.heap.size ≤ gb582)); clear HB; have HB := n0_; have BK582 := n1_; have GW582 := n2_; have GE582 := n3_; clear n0_ n1_ n2_ n3_; clear hb hbox hg; have hcz19_0 : w18.cell? ⟨gb582, 0, none⟩ = some (.int .i64 0) := (blk_cell BK582.out 0).trans rfl; have hcz19_1 : w18.cell? ⟨gb582, 1, none⟩ = some (.int .i64 0) := (blk_cell BK582.out 1).trans rfl; have hcz19_2 : w18.cell? ⟨gb582, 2, none⟩ = some (.string (⟨#[]⟩ : ByteArray)) := (blk_cell BK582.out 2).trans rfl; have hfz19_0 := blk_frozen BK582.out 0; have hfz19_1 := blk_frozen BK582.out 1; have hfz19_2 := blk_frozen BK582.out 2) | ((with_reducible refine gate_callee (f := 24) rfl ?_); refine goesL_ (some 34) rfl rfl Try.func24 (by kernel_rfl) rfl #[.agg #[.int .i64 ((rd_T33 (rd_L4 (rd_L5 l0 x11_1) x20_2) x29_3).f0), .int .i64 ((rd_T33 (rd_L4 (rd_L5 l0 x11_1) x20_2) x29_3).f1), .string ((rd_T33 (rd_L4 (rd_L5 l0 x11_1) x20_2) x29_3).f2)]] rfl (by (try simp only [List.map_toArray, List.map_cons, List.map_nil]); first | done | rfl | (simp only [List.length_drop, List.length_take]; rfl)) ?_; (with_reducible refine (cordonlaw01_Right.calls k3 ((rd_T33 (rd_L4 (rd_L5 l0 x11_1) x20_2) x29_3).f0) ((rd_T33 (rd_L4 (rd_L5 l0 x11_1) x20_2) x29_3).f1) ((rd_T33 (rd_L4 (rd_L5 l0 x11_1) x20_2) x29_3).f2) false _ A13.out).mono ?_); rintro e w20 ⟨rfl, hb⟩; refine ⟨_, rfl, ?_⟩; have n0_ := Aside0.mk (blk_below (g := gb582) (o := .cells #[.int .i64 ((rd_T33 (rd_L4 (rd_L5 l0 x11_1) x20_2) x29_3).f0), .int .i64 ((rd_T33 (rd_L4 (rd_L5 l0 x11_1) x20_2) x29_3).f1), .string ((rd_T33 (rd_L4 (rd_L5 l0 x11_1) x20_2) x29_3).f2)] 33 (0, 0)) (by (with_reducible repeat (first | refine blk_drewN ?_ _ | refine blk_drew ?_ | refine blk_alloc ?_ _)); refine blk_put (cs := #[.int .i64 ((rd_T33 (rd_L4 (rd_L5 l0 x11_1) x20_2) x29_3).f0), .int .i64 ((rd_T33 (rd_L4 (rd_L5 l0 x11_1) x20_2) x29_3).f1), .string (⟨#[]⟩ : ByteArray)]) ?_ 2 _ rfl; (with_reducible repeat (first | refine blk_drewN ?_ _ | refine blk_drew ?_ | refine blk_alloc ?_ _)); refine blk_put (cs := #[.int .i64 ((rd_T33 (rd_L4 (rd_L5 l0 x11_1) x20_2) x29_3).f0), .int .i64 0, .string (⟨#[]⟩ : ByteArray)]) ?_ 1 _ rfl; (with_reducible repeat (first | refine blk_drewN ?_ _ | refine blk_drew ?_ | refine blk_alloc ?_ _)); refine blk_put (cs := #[.int .i64 0, .int .i64 0, .string (⟨#[]⟩ : ByteArray)]) ?_ 0 _ rfl; (with_reducible repeat (first | refine blk_drewN ?_ _ | refine blk_drew ?_ | refine blk_alloc ?_ _)); exact BK582.out) hb); have n1_ := Aside0.mk (below_step (by repeat (first | (with_reducible first | exact HB.out | apply below_alloc | apply pw_below_drewN | apply below_drew1 | refine below_set ?_ GE582.out) | exact HB.out)) hb); clear BK582; clear HB; have BK582 := n0_; have HB := n1_; clear n0_ n1_; (try clear hb); (try clear hb2); (try clear hk); (try clear hi)))
                                      go_ret
                                      exact ⟨by first | rfl | (simp [errW_none, errW_some] <;> rfl) | (simp [*, errW_none, errW_some] <;> rfl), by repeat (first | (with_reducible first | exact HB.out | apply below_alloc | apply pw_below_drewN | apply below_drew1 | refine below_set ?_ GE582.out) | exact HB.out)⟩
                                  · rw [if_neg c12] at H
                                    exact absurd H (by simp)
                                · rw [if_neg c11] at H
                                  exact absurd H (by simp)
                              · rw [if_neg c10] at H
                                have c10b0 : decide (x29_3 < ((rd_L4 (rd_L5 l0 x11_1) x20_2).length : Int)) = false := decide_eq_false c10
                                clear c10
                                have H' := Aside0.mk H
                                clear H
                                go_wp2
                                go_roundg k3
                                case measure => have := HK1.out; have := HK2.out; have := HK3.out; omega
                                case rel => exact ⟨(wrap64 (x20_2 + 1)), (by first | rfl | (simp; done) | (simp [*]; done)), H', ⟨by have := HK1.out; have := HK2.out; have := HK3.out; omega⟩, ⟨by repeat (first | (with_reducible first | exact HB.out | apply below_alloc | apply pw_below_drewN | apply below_drew1) | exact HB.out)⟩⟩
                      · rw [if_neg c8] at H
                        exact absurd H (by simp)
                    · rw [if_neg c7] at H
                      exact absurd H (by simp)
                  · rw [if_neg c6] at H
                    have c6b0 : decide (x20_2 < ((rd_L5 l0 x11_1).length : Int)) = false := decide_eq_false c6
                    clear c6
                    have H' := Aside0.mk H
                    clear H
                    go_wp2
                    go_roundg k2
                    case measure => have := HK1.out; have := HK2.out; omega
                    case rel => exact ⟨(wrap64 (x11_1 + 1)), (by first | rfl | (simp; done) | (simp [*]; done)), H', ⟨by have := HK1.out; have := HK2.out; omega⟩, ⟨by repeat (first | (with_reducible first | exact HB.out | apply below_alloc | apply pw_below_drewN | apply below_drew1) | exact HB.out)⟩⟩
          · rw [if_neg c4] at H
            exact absurd H (by simp)
        · rw [if_neg c3] at H
          exact absurd H (by simp)
      · rw [if_neg c2] at H
        have c2b0 : decide (x11_1 < (l0.length : Int)) = false := decide_eq_false c2
        clear c2
        obtain rfl := Option.some.inj H
        go_wp2
        go_ret
        exact ⟨by first | rfl | (simp [errW_none, errW_some] <;> rfl) | (simp [*, errW_none, errW_some] <;> rfl), by repeat (first | (with_reducible first | exact HB.out | apply below_alloc | apply pw_below_drewN | apply below_drew1) | exact HB.out)⟩
def cordonref11_Same.l0 : Nat → List (List (S33)) → List (List (S33)) → Int → Option (Bool)
  | 0, _, _, _ => none
  | k + 1, x0, x1, x5 => if x5 < (x0.length : Int) then (if 0 ≤ x5 then (if x5 < (x1.length : Int) then ((cordonref02_Same.f k (rd_L4 x0 x5) (rd_L4 x1 x5)).bind fun t586 => (if t586 = true then (cordonref11_Same.l0 k x0 x1 (wrap64 (x5 + 1))) else (some false))) else (none)) else (none)) else (some true)
def cordonref11_Same.f (k : Nat) (l0 : List (List (S33))) (l1 : List (List (S33))) : Option (Bool) := if (l0.length : Int) = (l1.length : Int) then (cordonref11_Same.l0 k l0 l1 0) else (some false)
set_option maxHeartbeats 8000000 in
set_option maxRecDepth 100000 in
theorem cordonref11_Same.calls (k : Nat) (A0 : Option Addr) (c0 : Nat) (l0 : List (List (S33))) (A1 : Option Addr) (c1 : Nat) (l1 : List (List (S33))) (r : Bool) (w : World) (hr0 : Kd.C (Kd.slice 33 k33) w A0 l0.length l0) (hc0 : l0.length ≤ c0) (hr1 : Kd.C (Kd.slice 33 k33) w A1 l1.length l1) (hc1 : l1.length ≤ c1) (h : cordonref11_Same.f k l0 l1 = some r) :
    Calls Try.prog 56 #[.slice A0 l0.length c0, .slice A1 l1.length c1] w fun e w' => e = .returned (.bool r) ∧ Drawn0 w w' := by
  have HR0 := Aside0.mk hr0
  have HC0 := Aside0.mk hc0
  clear hr0 hc0
  have HR1 := Aside0.mk hr1
  have HC1 := Aside0.mk hc1
  clear hr1 hc1
  have H : (if (l0.length : Int) = (l1.length : Int) then (cordonref11_Same.l0 k l0 l1 0) else (some false)) = some r := h
  clear h
  by_cases c3 : (l0.length : Int) = (l1.length : Int)
  · rw [if_pos c3] at H
    have c3b0 : ((l0.length : Int) == (l1.length : Int)) = true := beq_iff_eq.mpr c3
    have c3b1 : ((l0.length : Int) != (l1.length : Int)) = false := bne_eq_false_iff_eq.mpr c3
    have c3b2 : (l0.length == l1.length) = true := by first | simpa using c3 | (simp at c3 ⊢; omega)
    clear c3
    have H' := Aside0.mk H
    clear H
    go_enter Try.func56, Try.ntmps56
    go_wp2
    repeat (go_quiet (fail); try go_wp2)
    go_loopg [5] k (fun kq v5 w' => ∃ (x5_1 : Int), v5 = .int .i64 x5_1 ∧ Aside0 (cordonref11_Same.l0 kq l0 l1 x5_1 = some r) ∧ Aside0 (kq ≤ k) ∧ Drawn0 w w')
    case atStart => exact ⟨(0), (by first | rfl | (simp; done) | (simp [*]; done)), H', ⟨Nat.le_refl _⟩, by repeat (first | exact Drawn0.refl _ | apply Drawn0.step)⟩
    case round =>
      clear H'
      try clear c1
      try clear p2
      try clear c3
      try clear c3b0
      try clear c3b1
      try clear c3b2
      obtain ⟨x5_1, rfl, HA, HK1, ⟨m1, rfl⟩⟩ := hrel
      cases gk with
      | zero => exact absurd HA.out (by simp [cordonref11_Same.l0])
      | succ k1 =>
        have H := HA.out
        clear HA
        simp only [cordonref11_Same.l0] at H
        by_cases c4 : x5_1 < (l0.length : Int)
        · rw [if_pos c4] at H
          have c4b0 : decide (x5_1 < (l0.length : Int)) = true := decide_eq_true c4
          clear c4
          by_cases c5 : 0 ≤ x5_1
          · rw [if_pos c5] at H
            have c5b0 : decide (0 ≤ x5_1) = true := decide_eq_true c5
            clear c5
            by_cases c6 : x5_1 < (l1.length : Int)
            · rw [if_pos c6] at H
              have c6b0 : decide (x5_1 < (l1.length : Int)) = true := decide_eq_true c6
              clear c6
              replace H := Option.bind_eq_some_iff.mp H
              obtain ⟨t586, A70, H⟩ := H
              replace H : (if t586 = true then (cordonref11_Same.l0 k1 l0 l1 (wrap64 (x5_1 + 1))) else (some false)) = some r := H
              have A7 := Aside0.mk A70
              clear A70
              by_cases c8 : t586 = true
              · subst c8
                have H1 : (cordonref11_Same.l0 k1 l0 l1 (wrap64 (x5_1 + 1))) = some r := by rw [if_pos rfl] at H; exact H
                clear H
                have H := H1
                clear H1
                have H' := Aside0.mk H
                clear H
                have p584 : 0 ≤ (x5_1 : Int) := of_decide_eq_true (by first | (with_reducible assumption) | assumption)
                have q584 : x5_1 < (l0.length : Int) := of_decide_eq_true (by first | (with_reducible assumption) | assumption)
                obtain ⟨ad584, A584_0, c584_0, e584, hx584_0, hl584_0, hi584_0⟩ := at_L4 HR0.out x5_1 p584 q584
                cases e584
                have HR584_0 := Aside0.mk hi584_0
                have HC584_0 := Aside0.mk hl584_0
                clear hi584_0 hl584_0
                replace p584 := eq_true p584
                replace q584 := eq_true q584
                have p585 : 0 ≤ (x5_1 : Int) := of_decide_eq_true (by first | (with_reducible assumption) | assumption)
                have q585 : x5_1 < (l1.length : Int) := of_decide_eq_true (by first | (with_reducible assumption) | assumption)
                obtain ⟨ad585, A585_0, c585_0, e585, hx585_0, hl585_0, hi585_0⟩ := at_L4 HR1.out x5_1 p585 q585
                cases e585
                have HR585_0 := Aside0.mk hi585_0
                have HC585_0 := Aside0.mk hl585_0
                clear hi585_0 hl585_0
                replace p585 := eq_true p585
                replace q585 := eq_true q585
                go_wp2_with (first | (go_at_call 49; (with_reducible refine (cordonref02_Same.calls k1 _ _ (rd_L4 l0 x5_1) _ _ (rd_L4 l1 x5_1) true _ ?side1 ?side2 ?side3 ?side4 A7.out).mono ?_); (case side1 => repeat (first | exact HR584_0.out | (with_reducible refine Kd.C_alloc ?_ _) | (with_reducible refine Kd.C_drewN ?_ _) | (with_reducible refine Kd.C_drew ?_))); (case side2 => exact HC584_0.out); (case side3 => repeat (first | exact HR585_0.out | (with_reducible refine Kd.C_alloc ?_ _) | (with_reducible refine Kd.C_drewN ?_ _) | (with_reducible refine Kd.C_drew ?_))); (case side4 => exact HC585_0.out); rintro e w' ⟨rfl, ⟨nd, rfl⟩⟩; (try first | exact ⟨rfl, _, World.drewN_drewN _ _ _⟩ | exact ⟨rfl, _, Eq.trans (World.drewN_drewN _ _ _) (congrArg (World.drewN _) (Nat.add_assoc _ _ _))⟩)))
                repeat (go_quiet (first | (go_at_call 49; (with_reducible refine (cordonref02_Same.calls k1 _ _ (rd_L4 l0 x5_1) _ _ (rd_L4 l1 x5_1) true _ ?side1 ?side2 ?side3 ?side4 A7.out).mono ?_); (case side1 => repeat (first | exact HR584_0.out | (with_reducible refine Kd.C_alloc ?_ _) | (with_reducible refine Kd.C_drewN ?_ _) | (with_reducible refine Kd.C_drew ?_))); (case side2 => exact HC584_0.out); (case side3 => repeat (first | exact HR585_0.out | (with_reducible refine Kd.C_alloc ?_ _) | (with_reducible refine Kd.C_drewN ?_ _) | (with_reducible refine Kd.C_drew ?_))); (case side4 => exact HC585_0.out); rintro e w' ⟨rfl, ⟨nd, rfl⟩⟩; (try first | exact ⟨rfl, _, World.drewN_drewN _ _ _⟩ | exact ⟨rfl, _, Eq.trans (World.drewN_drewN _ _ _) (congrArg (World.drewN _) (Nat.add_assoc _ _ _))⟩))); try go_wp2_with (first | (go_at_call 49; (with_reducible refine (cordonref02_Same.calls k1 _ _ (rd_L4 l0 x5_1) _ _ (rd_L4 l1 x5_1) true _ ?side1 ?side2 ?side3 ?side4 A7.out).mono ?_); (case side1 => repeat (first | exact HR584_0.out | (with_reducible refine Kd.C_alloc ?_ _) | (with_reducible refine Kd.C_drewN ?_ _) | (with_reducible refine Kd.C_drew ?_))); (case side2 => exact HC584_0.out); (case side3 => repeat (first | exact HR585_0.out | (with_reducible refine Kd.C_alloc ?_ _) | (with_reducible refine Kd.C_drewN ?_ _) | (with_reducible refine Kd.C_drew ?_))); (case side4 => exact HC585_0.out); rintro e w' ⟨rfl, ⟨nd, rfl⟩⟩; (try first | exact ⟨rfl, _, World.drewN_drewN _ _ _⟩ | exact ⟨rfl, _, Eq.trans (World.drewN_drewN _ _ _) (congrArg (World.drewN _) (Nat.add_assoc _ _ _))⟩))))
                go_roundg k1
                case measure => have := HK1.out; omega
                case rel => exact ⟨(wrap64 (x5_1 + 1)), (by first | rfl | (simp; done) | (simp [*]; done)), H', ⟨by have := HK1.out; omega⟩, by repeat (first | exact Drawn0.refl _ | apply Drawn0.step)⟩
              · replace c8 := Bool.eq_false_iff.mpr c8
                subst c8
                have H1 : (some false) = some r := by rw [if_neg (show ¬ (false = true) by decide)] at H; exact H
                clear H
                have H := H1
                clear H1
                obtain rfl := Option.some.inj H
                have p584 : 0 ≤ (x5_1 : Int) := of_decide_eq_true (by first | (with_reducible assumption) | assumption)
                have q584 : x5_1 < (l0.length : Int) := of_decide_eq_true (by first | (with_reducible assumption) | assumption)
                obtain ⟨ad584, A584_0, c584_0, e584, hx584_0, hl584_0, hi584_0⟩ := at_L4 HR0.out x5_1 p584 q584
                cases e584
                have HR584_0 := Aside0.mk hi584_0
                have HC584_0 := Aside0.mk hl584_0
                clear hi584_0 hl584_0
                replace p584 := eq_true p584
                replace q584 := eq_true q584
                have p585 : 0 ≤ (x5_1 : Int) := of_decide_eq_true (by first | (with_reducible assumption) | assumption)
                have q585 : x5_1 < (l1.length : Int) := of_decide_eq_true (by first | (with_reducible assumption) | assumption)
                obtain ⟨ad585, A585_0, c585_0, e585, hx585_0, hl585_0, hi585_0⟩ := at_L4 HR1.out x5_1 p585 q585
                cases e585
                have HR585_0 := Aside0.mk hi585_0
                have HC585_0 := Aside0.mk hl585_0
                clear hi585_0 hl585_0
                replace p585 := eq_true p585
                replace q585 := eq_true q585
                go_wp2_with (first | (go_at_call 49; (with_reducible refine (cordonref02_Same.calls k1 _ _ (rd_L4 l0 x5_1) _ _ (rd_L4 l1 x5_1) false _ ?side1 ?side2 ?side3 ?side4 A7.out).mono ?_); (case side1 => repeat (first | exact HR584_0.out | (with_reducible refine Kd.C_alloc ?_ _) | (with_reducible refine Kd.C_drewN ?_ _) | (with_reducible refine Kd.C_drew ?_))); (case side2 => exact HC584_0.out); (case side3 => repeat (first | exact HR585_0.out | (with_reducible refine Kd.C_alloc ?_ _) | (with_reducible refine Kd.C_drewN ?_ _) | (with_reducible refine Kd.C_drew ?_))); (case side4 => exact HC585_0.out); rintro e w' ⟨rfl, ⟨nd, rfl⟩⟩; (try first | exact ⟨rfl, _, World.drewN_drewN _ _ _⟩ | exact ⟨rfl, _, Eq.trans (World.drewN_drewN _ _ _) (congrArg (World.drewN _) (Nat.add_assoc _ _ _))⟩)))
                repeat (go_quiet (first | (go_at_call 49; (with_reducible refine (cordonref02_Same.calls k1 _ _ (rd_L4 l0 x5_1) _ _ (rd_L4 l1 x5_1) false _ ?side1 ?side2 ?side3 ?side4 A7.out).mono ?_); (case side1 => repeat (first | exact HR584_0.out | (with_reducible refine Kd.C_alloc ?_ _) | (with_reducible refine Kd.C_drewN ?_ _) | (with_reducible refine Kd.C_drew ?_))); (case side2 => exact HC584_0.out); (case side3 => repeat (first | exact HR585_0.out | (with_reducible refine Kd.C_alloc ?_ _) | (with_reducible refine Kd.C_drewN ?_ _) | (with_reducible refine Kd.C_drew ?_))); (case side4 => exact HC585_0.out); rintro e w' ⟨rfl, ⟨nd, rfl⟩⟩; (try first | exact ⟨rfl, _, World.drewN_drewN _ _ _⟩ | exact ⟨rfl, _, Eq.trans (World.drewN_drewN _ _ _) (congrArg (World.drewN _) (Nat.add_assoc _ _ _))⟩))); try go_wp2_with (first | (go_at_call 49; (with_reducible refine (cordonref02_Same.calls k1 _ _ (rd_L4 l0 x5_1) _ _ (rd_L4 l1 x5_1) false _ ?side1 ?side2 ?side3 ?side4 A7.out).mono ?_); (case side1 => repeat (first | exact HR584_0.out | (with_reducible refine Kd.C_alloc ?_ _) | (with_reducible refine Kd.C_drewN ?_ _) | (with_reducible refine Kd.C_drew ?_))); (case side2 => exact HC584_0.out); (case side3 => repeat (first | exact HR585_0.out | (with_reducible refine Kd.C_alloc ?_ _) | (with_reducible refine Kd.C_drewN ?_ _) | (with_reducible refine Kd.C_drew ?_))); (case side4 => exact HC585_0.out); rintro e w' ⟨rfl, ⟨nd, rfl⟩⟩; (try first | exact ⟨rfl, _, World.drewN_drewN _ _ _⟩ | exact ⟨rfl, _, Eq.trans (World.drewN_drewN _ _ _) (congrArg (World.drewN _) (Nat.add_assoc _ _ _))⟩))))
                go_ret
                exact ⟨by first | rfl | (simp; done) | (simp [*]; done), by repeat (first | exact Drawn0.refl _ | apply Drawn0.step)⟩
            · rw [if_neg c6] at H
              exact absurd H (by simp)
          · rw [if_neg c5] at H
            exact absurd H (by simp)
        · rw [if_neg c4] at H
          have c4b0 : decide (x5_1 < (l0.length : Int)) = false := decide_eq_false c4
          clear c4
          obtain rfl := Option.some.inj H
          go_wp2
          repeat (go_quiet (fail); try go_wp2)
          go_ret
          exact ⟨by first | rfl | (simp; done) | (simp [*]; done), by repeat (first | exact Drawn0.refl _ | apply Drawn0.step)⟩
  · rw [if_neg c3] at H
    have c3b0 : ((l0.length : Int) == (l1.length : Int)) = false := beq_eq_false_iff_ne.mpr c3
    have c3b1 : ((l0.length : Int) != (l1.length : Int)) = true := bne_iff_ne.mpr c3
    have c3b2 : (l0.length == l1.length) = false := by first | simpa using c3 | (simp at c3 ⊢; omega)
    obtain rfl := Option.some.inj H
    go_enter Try.func56, Try.ntmps56
    go_wp2
    repeat (go_quiet (fail); try go_wp2)
    go_ret
    exact ⟨by first | rfl | (simp; done) | (simp [*]; done), by repeat (first | exact Drawn0.refl _ | apply Drawn0.step)⟩
def cordonlaw11_one.f (a0 : Int) : Option ((List (S33))) := (cordonref01_Int.f a0).bind fun bt589 => (some (([(⟨bt589.1, bt589.2.1, bt589.2.2⟩ : S33)] : List (S33))))
set_option maxHeartbeats 8000000 in
set_option maxRecDepth 100000 in
theorem cordonlaw11_one.calls (a0 : Int) (r : List (S33)) (w : World) (h : cordonlaw11_one.f a0 = some r) :
    Calls Try.prog 92 #[.int .i64 a0] w fun e w' => ∃ v0_ : Value, e = .returned (v0_) ∧ Kd.R k33 33 w' w.heap.size (fun _ => True) v0_ r ∧ Below w.heap.size w w' := by
  have HB := Aside0.mk (Below.refl w.heap.size w)
  have H : ((cordonref01_Int.f a0).bind fun bt589 => (some (([(⟨bt589.1, bt589.2.1, bt589.2.2⟩ : S33)] : List (S33))))) = some r := h
  clear h
  replace H := Option.bind_eq_some_iff.mp H
  obtain ⟨⟨t589, t590, t591⟩, A20, H⟩ := H
  replace H : (some (([(⟨t589, t590, t591⟩ : S33)] : List (S33)))) = some r := H
  have A2 := Aside0.mk A20
  clear A20
  obtain ⟨y592, hy592⟩ : ∃ y_ : List (S33), y_ = (([(⟨t589, t590, t591⟩ : S33)] : List (S33))) := ⟨_, rfl⟩
  replace H : (some y592) = some r := by first | (rw [hy592]; with_reducible exact H) | (have H2_ := (Option.bind_some _ _).symm.trans H; rw [hy592]; with_reducible exact H2_) | (have H2_ := (Option.bind_some _ _).symm.trans H; with_reducible exact H2_) | with_reducible exact H | (rw [hy592]; exact H) | exact H
  have Ny592 := Aside0.mk hy592
  clear hy592
  obtain rfl := Option.some.inj H
  go_enter Try.func92, Try.ntmps92
  go_wp2_with (first | ((with_reducible refine gate_callee (f := 36) rfl ?_); refine goesL_ (some 4) rfl rfl Try.func36 (by kernel_rfl) rfl #[.int .i64 a0] rfl (by (try simp only [List.map_toArray, List.map_cons, List.map_nil]); first | done | rfl | (simp only [List.length_drop, List.length_take]; rfl)) ?_; (with_reducible refine (cordonref01_Int.calls a0 t589 t590 t591 _ A2.out).mono ?_); rintro e w3 ⟨rfl, hb⟩; refine ⟨_, rfl, ?_⟩; have n0_ := Aside0.mk (below_step (by repeat (first | (with_reducible first | exact HB.out | apply below_alloc | apply pw_below_drewN | apply below_drew1) | exact HB.out)) hb); clear HB; have HB := n0_; clear n0_; (try clear hb); (try clear hb2); (try clear hk); (try clear hi)) | ((with_reducible refine gate_dst (N := 5) rfl ?_); refine Kd.R_lit k33 _ 33 ?hg (N := 5) ?hd (xs := ([(⟨t589, t590, t591⟩ : S33)] : List (S33))) (inner := [.int .i64 t589, .int .i64 t590, .string t591]) (ok := fun _ => True) (okp := fun _ => True) ?hr ?hp (fun _ hk => hk) trivial (Below.refl _ _) (Nat.le_refl _) (by simp) ?_; (case hd => rfl); (case hg => rfl); (case hr => first | (go_simp; done) | (go_simp; rfl)); (case hp => exact (Reps.c3 (show Kd.M k33 _ _ _ (⟨t589, t590, t591⟩ : S33) [.int .i64 t589, .int .i64 t590, .string t591] from (k33_mkM _ _ _ (⟨t589, t590, t591⟩ : S33) )) (Reps.none _ _))); intro v593 w4 ho5 hb hg_ hnew_; clear hg_ hnew_; (first | rw [← Ny592.out] at ho5 | (simp only [Int.reduceToNat] at ho5; rw [← Ny592.out] at ho5)); have n0_ := Aside0.mk (Kd.R_lower ho5 (below_size (by repeat (first | (with_reducible first | exact HB.out | apply below_alloc | apply pw_below_drewN | apply below_drew1) | exact HB.out)))); have n1_ := Aside0.mk (below_step (by repeat (first | (with_reducible first | exact HB.out | apply below_alloc | apply pw_below_drewN | apply below_drew1) | exact HB.out)) hb); clear HB; have HO594 := n0_; have HB := n1_; clear n0_ n1_; clear hb ho5))
  go_ret
  exact ⟨_, by first | rfl | (simp [errW_none, errW_some] <;> rfl) | (simp [*, errW_none, errW_some] <;> rfl), by (with_reducible repeat (first | apply Kd.R_alloc | apply Kd.R_drewN | apply Kd.R_drew)); exact HO594.out, by repeat (first | (with_reducible first | exact HB.out | apply below_alloc | apply pw_below_drewN | apply below_drew1) | exact HB.out)⟩
end Go.Proofs.Ythghflgmeepnlaa.Pa
end
section
namespace Go.Proofs.Ythghflgmeepnlaa.Pa
open Go.RowKit Go.Proofs.YthghflgmeepnlaaW.PrintWords Go.Proofs.YthghflgmeepnlaaW.PrintLast Go.Proofs.YthghflgmeepnlaaW.PrintMore
attribute [local go_sem] max2_int max_two
set_option linter.unusedVariables false
set_option linter.unusedSimpArgs false
def cordonref11_In.l0 : Nat → List (List (S33)) → List (S33) → Int → Option (Bool)
  | 0, _, _, _ => none
  | k + 1, x0, x1, x5 => if x5 < (x0.length : Int) then (if 0 ≤ x5 then ((cordonref02_Same.f k (rd_L4 x0 x5) x1).bind fun t691 => (if t691 = true then (some true) else (cordonref11_In.l0 k x0 x1 (wrap64 (x5 + 1))))) else (none)) else (some false)
end Go.Proofs.Ythghflgmeepnlaa.Pa
end
section
namespace Go.Proofs.Ythghflgmeepnlaa.Pa
open Go.RowKit Go.Proofs.YthghflgmeepnlaaW.PrintWords Go.Proofs.YthghflgmeepnlaaW.PrintLast Go.Proofs.YthghflgmeepnlaaW.PrintMore
attribute [local go_sem] max2_int max_two
set_option linter.unusedVariables false
set_option linter.unusedSimpArgs false
end Go.Proofs.Ythghflgmeepnlaa.Pa
end
section
namespace Go.Proofs.Ythghflgmeepnlaa.Pa
open Go.RowKit Go.Proofs.YthghflgmeepnlaaW.PrintWords Go.Proofs.YthghflgmeepnlaaW.PrintLast Go.Proofs.YthghflgmeepnlaaW.PrintMore
set_option linter.unusedVariables false
set_option linter.unusedSimpArgs false
/-- A row that is gone through. -/
def gR (r : List S33) : Prop := r.length ≤ 40 ∧ ∀ y ∈ r, rightV y = 0 ∧ -9223372036854775808 ≤ y.f1 ∧ y.f1 ≤ 9223372036854775807
/-- A row's key. -/
abbrev kb (r : List S33) : List UInt8 := ky (bytesOfRow r)
theorem errR_all0 : ∀ {l : List S33}, (∀ y ∈ l, rightV y = 0) → errR l = 0
  | [], _ => rfl
  | x :: l, h => by
    unfold errR
    rw [if_pos (h x (by simp))]
    exact errR_all0 (fun y hy => h y (by simp [hy]))
theorem kb_is {r : List S33} (h : gR r) : kb r = bytesR r := by
  unfold kb ky bytesOfRow encode
  rw [if_neg (by simp [errR_all0 (fun y hy => (h.2 y hy).1)]), if_neg (by have := h.1; omega)]
theorem kb_iff {r r' : List S33} (h : gR r) (h' : gR r') : kb r = kb r' ↔ ordL r r' = 0 := by
  rw [kb_is h, kb_is h', ← bytes_cmp r r' h.2 h'.2]
  exact (lin_bytes.zero _ _).symm
theorem same_key {r r' : List S33} (h : gR r) (h' : gR r') (k : Nat) : cordonref02_Same.f (k + 61) r r' = some (decide (kb r = kb r')) := by
  rw [Pure.same_is r r' (by have := h.1; omega)]
  congr 1
  rw [decide_eq_decide]
  exact (kb_iff h h').symm
theorem keysOf_drop {l : List (List S33)} {i : Nat} (h1 : i < l.length) : keysOf (l.drop i) = kb (rd_L4 l (i : Int)) :: keysOf (l.drop (i + 1)) := by
  have := drop_keys h1
  unfold keysOf at *
  rw [List.map_drop, this, List.map_drop]
theorem rd_in {l : List (List S33)} {i : Nat} (h1 : i < l.length) : rd_L4 l (i : Int) ∈ l := by
  unfold rd_L4
  rw [Int.toNat_natCast, List.getD_eq_getElem?_getD, List.getElem?_eq_getElem h1]
  exact List.getElem_mem h1
theorem drop_rdN {l : List (List S33)} {i : Nat} (h1 : i < l.length) : l.drop i = rd_L4 l (i : Int) :: l.drop (i + 1) := by
  have := drop_rdL (l := l) (i := (i : Int)) (by omega) (by omega)
  rwa [Int.toNat_natCast, show ((i : Int) + 1).toNat = i + 1 by omega] at this
theorem wrapN (i : Nat) (h : i < 1000000000) : wrap64 ((i : Int) + 1) = ((i + 1 : Nat) : Int) := by unfold wrap64; omega
theorem rsame_l0 (l : List (List S33)) (hg : ∀ r ∈ l, gR r) (hl : l.length < 1000000000) (d : Nat) : ∀ (k i : Nat), i + d = l.length → cordonref11_Same.l0 (k + d + 62) l l (i : Int) = some true := by
  induction d with
  | zero =>
    intro k i hd
    rw [show k + 0 + 62 = (k + 61) + 1 from rfl, cordonref11_Same.l0, if_neg (by omega)]
  | succ d ih =>
    intro k i hd
    rw [show k + (d + 1) + 62 = (k + d + 1 + 61) + 1 by omega, cordonref11_Same.l0, if_pos (by omega), if_pos (by omega), if_pos (by omega), same_key (hg _ (rd_in (by omega))) (hg _ (rd_in (by omega))), Option.bind_some]
    rw [if_pos (by simp), wrapN i (by omega), show k + d + 1 + 61 = k + d + 62 by omega]
    exact ih k (i + 1) (by omega)
theorem rsame_is (l : List (List S33)) (hg : ∀ r ∈ l, gR r) (hl : l.length < 1000000000) (k : Nat) : cordonref11_Same.f (k + l.length + 62) l l = some true := by
  unfold cordonref11_Same.f
  rw [if_pos rfl]
  exact rsame_l0 l hg hl l.length k 0 (by omega)
theorem in_l0 (l : List (List S33)) (r : List S33) (hg : ∀ r ∈ l, gR r) (hr : gR r) (hl : l.length < 1000000000) (d : Nat) : ∀ (k i : Nat), i + d = l.length → cordonref11_In.l0 (k + d + 62) l r (i : Int) = some (decide (kb r ∈ keysOf (l.drop i))) := by
  induction d with
  | zero =>
    intro k i hd
    rw [show k + 0 + 62 = (k + 61) + 1 from rfl, cordonref11_In.l0, if_neg (by omega), List.drop_eq_nil_of_le (by omega)]
    rfl
  | succ d ih =>
    intro k i hd
    rw [show k + (d + 1) + 62 = (k + d + 1 + 61) + 1 by omega, cordonref11_In.l0, if_pos (by omega), if_pos (by omega), same_key (hg _ (rd_in (by omega))) hr, Option.bind_some, keysOf_drop (by omega)]
    by_cases h : kb (rd_L4 l (i : Int)) = kb r
    · rw [if_pos (by simp [h]), h]
      simp
    · rw [if_neg (by simp [h]), wrapN i (by omega), show k + d + 1 + 61 = k + d + 62 by omega, ih k (i + 1) (by omega)]
      congr 1
      rw [decide_eq_decide]
      exact ⟨fun q => List.mem_cons_of_mem _ q, fun q => by
        rcases List.mem_cons.1 q with q | q
        · exact absurd q.symm h
        · exact q⟩
theorem right11 (k : Nat) (x : S33) : cordonlaw01_Right.f (k + 1) x.f0 x.f1 x.f2 = some (rightV x == 0) := by
  unfold cordonlaw01_Right.f
  rw [right_ref k x]
  rfl
theorem few_l2 (x9 : List (List (List S33))) (x10 x11 : Int) (x18 : List (List S33)) (x19 x20 : Int) (row : List S33) (hl : row.length ≤ 9223372036854775807) (C : Prop)
    (hn : ∃ k r, cordonlaw11_Few.l1 k x9 x10 x11 x18 x19 (wrap64 (x20 + 1)) = some r ∧ (r = true → C)) (d : Nat) : ∀ (i : Nat), i + d = row.length →
    ∃ k r, cordonlaw11_Few.l2 k x9 x10 x11 x18 x19 x20 row (row.length : Int) (i : Int) = some r ∧ (r = true → C ∧ ∀ v ∈ row.drop i, rightV v = 0) := by
  induction d with
  | zero =>
    intro i hd
    obtain ⟨k, r, h, hr⟩ := hn
    refine ⟨k + 1, r, ?_, fun q => ⟨hr q, by rw [List.drop_eq_nil_of_le (by omega)]; simp⟩⟩
    rw [cordonlaw11_Few.l2, if_neg (by omega), h]
  | succ d ih =>
    intro i hd
    obtain ⟨k, r, h, hr⟩ := ih (i + 1) (by omega)
    have hw : wrap64 ((i : Int) + 1) = ((i + 1 : Nat) : Int) := by unfold wrap64; omega
    have hi : i < row.length := by omega
    have e : rd_T33 row (i : Int) = row[i] := by unfold rd_T33; simp [List.getD_eq_getElem?_getD, List.getElem?_eq_getElem hi]
    by_cases c : rightV row[i] = 0
    · refine ⟨k + 1 + 1, r, ?_, fun q => ⟨(hr q).1, fun v hv => ?_⟩⟩
      · rw [cordonlaw11_Few.l2, if_pos (by omega), if_pos (by omega), if_pos (by omega), right11 k, Option.bind_some, e, c, if_pos (by rfl), hw]
        exact (cordonlaw11_Few.mono_l k).2.2 _ _ _ _ _ _ _ _ _ r h
      · rw [List.drop_eq_getElem_cons hi] at hv
        rcases List.mem_cons.1 hv with rfl | hv
        · exact c
        · exact (hr q).2 v hv
    · refine ⟨1 + 1, false, ?_, fun q => by cases q⟩
      rw [cordonlaw11_Few.l2, if_pos (by omega), if_pos (by omega), if_pos (by omega), right11 0, Option.bind_some, e, if_neg (by simp [c])]
theorem few_l1 (x9 : List (List (List S33))) (x10 x11 : Int) (x18 : List (List S33)) (hl : x18.length ≤ 9223372036854775807) (hx : ∀ r ∈ x18, r.length ≤ 9223372036854775807) (C : Prop)
    (hn : ∃ k r, cordonlaw11_Few.l0 k x9 x10 (wrap64 (x11 + 1)) = some r ∧ (r = true → C)) (d : Nat) : ∀ (i : Nat), i + d = x18.length →
    ∃ k r, cordonlaw11_Few.l1 k x9 x10 x11 x18 (x18.length : Int) (i : Int) = some r ∧ (r = true → C ∧ ∀ l ∈ x18.drop i, l.length ≤ 40 ∧ ∀ v ∈ l, rightV v = 0) := by
  induction d with
  | zero =>
    intro i hd
    obtain ⟨k, r, h, hr⟩ := hn
    refine ⟨k + 1, r, ?_, fun q => ⟨hr q, by rw [List.drop_eq_nil_of_le (by omega)]; simp⟩⟩
    rw [cordonlaw11_Few.l1, if_neg (by omega), h]
  | succ d ih =>
    intro i hd
    have hw : wrap64 ((i : Int) + 1) = ((i + 1 : Nat) : Int) := by unfold wrap64; omega
    have hi : i < x18.length := by omega
    have hrd := rd_in (l := x18) (i := i) hi
    by_cases c : ((rd_L4 x18 (i : Int)).length : Int) > 40
    · refine ⟨0 + 1, false, ?_, fun q => by cases q⟩
      rw [cordonlaw11_Few.l1, if_pos (by omega), if_pos (by omega), if_pos (by omega), if_pos c]
    · obtain ⟨k, r, h, hr⟩ := few_l2 x9 x10 x11 x18 (x18.length : Int) (i : Int) (rd_L4 x18 (i : Int)) (hx _ hrd) _ (by rw [hw]; exact ih (i + 1) (by omega)) (rd_L4 x18 (i : Int)).length 0 (by omega)
      refine ⟨k + 1, r, ?_, fun q => ⟨(hr q).1.1, fun l hlm => ?_⟩⟩
      · rw [cordonlaw11_Few.l1, if_pos (by omega), if_pos (by omega), if_pos (by omega), if_neg c]
        exact h
      · rw [drop_rdN hi] at hlm
        rcases List.mem_cons.1 hlm with rfl | hlm
        · exact ⟨by omega, by simpa using (hr q).2⟩
        · exact (hr q).1.2 l hlm
theorem few_l0' (x9 : List (List (List S33))) (hl : x9.length ≤ 9223372036854775807) (hx : ∀ l ∈ x9, l.length ≤ 9223372036854775807 ∧ ∀ r ∈ l, r.length ≤ 9223372036854775807) (d : Nat) : ∀ (i : Nat), i + d = x9.length →
    ∃ k r, cordonlaw11_Few.l0 k x9 (x9.length : Int) (i : Int) = some r ∧ (r = true → ∀ l ∈ x9.drop i, l.length ≤ 40 ∧ ∀ r ∈ l, r.length ≤ 40 ∧ ∀ v ∈ r, rightV v = 0) := by
  induction d with
  | zero =>
    intro i hd
    refine ⟨0 + 1, true, ?_, fun q => by rw [List.drop_eq_nil_of_le (by omega)]; simp⟩
    rw [cordonlaw11_Few.l0, if_neg (by omega)]
  | succ d ih =>
    intro i hd
    have hw : wrap64 ((i : Int) + 1) = ((i + 1 : Nat) : Int) := by unfold wrap64; omega
    have hi : i < x9.length := by omega
    have e : rd_L5 x9 (i : Int) = x9[i] := by unfold rd_L5; simp [List.getD_eq_getElem?_getD, List.getElem?_eq_getElem hi]
    have hm := hx _ (List.getElem_mem hi)
    by_cases c : ((x9[i]).length : Int) > 40
    · refine ⟨0 + 1, false, ?_, fun q => by cases q⟩
      rw [cordonlaw11_Few.l0, if_pos (by omega), if_pos (by omega), if_pos (by omega), e, if_pos c]
    · obtain ⟨k, r, h, hr⟩ := few_l1 x9 (x9.length : Int) (i : Int) x9[i] hm.1 hm.2 _ (by rw [hw]; exact ih (i + 1) (by omega)) (x9[i]).length 0 (by omega)
      refine ⟨k + 1, r, ?_, fun q l hlm => ?_⟩
      · rw [cordonlaw11_Few.l0, if_pos (by omega), if_pos (by omega), if_pos (by omega), e, if_neg c]
        exact h
      · rw [List.drop_eq_getElem_cons hi] at hlm
        rcases List.mem_cons.1 hlm with rfl | hlm
        · exact ⟨by omega, by simpa using (hr q).2⟩
        · exact (hr q).1 l hlm
/-- A list of rows that is gone through. -/
def gL (l : List (List S33)) : Prop := l.length ≤ 40 ∧ ∀ r ∈ l, gR r
theorem few11 (x9 : List (List (List S33))) (hl : x9.length ≤ 9223372036854775807) (hx : ∀ l ∈ x9, l.length ≤ 9223372036854775807 ∧ ∀ r ∈ l, r.length ≤ 9223372036854775807 ∧ ∀ y ∈ r, okv y) :
    ∃ k r, cordonlaw11_Few.f k x9 = some r ∧ (r = true → ∀ l ∈ x9, gL l) := by
  obtain ⟨k, r, h, hr⟩ := few_l0' x9 hl (fun l hl => ⟨(hx l hl).1, fun r hr => ((hx l hl).2 r hr).1⟩) x9.length 0 (by omega)
  refine ⟨k, r, h, fun q l hlm => ?_⟩
  have h1 := hr q l (by simpa using hlm)
  refine ⟨h1.1, fun r hrm => ⟨(h1.2 r hrm).1, fun y hy => ?_⟩⟩
  have h2 := (((hx l hlm).2 r hrm).2 y hy).2.1
  have h3 : -9223372036854775808 ≤ y.f1 ∧ y.f1 ≤ 9223372036854775807 := by
    simp only [Lit.wf, Bool.and_eq_true, decide_eq_true_eq] at h2
    exact h2
  exact ⟨(h1.2 r hrm).2 y hy, h3⟩
end Go.Proofs.Ythghflgmeepnlaa.Pa
end
section
namespace Go.Proofs.Ythghflgmeepnlaa.Pa
open Go.RowKit Go.Proofs.YthghflgmeepnlaaW.PrintWords Go.Proofs.YthghflgmeepnlaaW.PrintLast Go.Proofs.YthghflgmeepnlaaW.PrintMore
attribute [local go_sem] max2_int max_two
set_option linter.unusedVariables false
set_option linter.unusedSimpArgs false
mutual
def cordonref11_Sort.l0 : Nat → List (List (S33)) → List (List (S33)) → List Bool → List Int → Int → Option ((List (List (S33))))
  | 0, _, _, _, _, _ => none
  | k + 1, x0, x1, x2, x7, x8 => if x8 < (x0.length : Int) then (cordonref11_Sort.l1 k x0 x1 x2 x7 x8 (x7.length : Int)) else (cordonref11_Sort.l2 k x0 x7 ([] : List (List (S33))) 0)
def cordonref11_Sort.l1 : Nat → List (List (S33)) → List (List (S33)) → List Bool → List Int → Int → Int → Option ((List (List (S33))))
  | 0, _, _, _, _, _, _ => none
  | k + 1, x0, x1, x2, x7, x8, x9 => if x9 > 0 then (if 0 ≤ (wrap64 (x9 - 1)) then (if (wrap64 (x9 - 1)) < (x7.length : Int) then ((cordonref11_key.f x1 (rd x7 (wrap64 (x9 - 1)))).bind fun t625 => ((cordonref11_key.f x1 x8).bind fun t628 => ((cordonref11_Order.f k t625 t628 x2).bind fun t631 => (if t631 > 0 then (cordonref11_Sort.l1 k x0 x1 x2 x7 x8 (wrap64 (x9 - 1))) else ((some (([] : List Int) : List Int)).bind fun y632 => (if 0 ≤ x9 then (if x9 ≤ (x7.length : Int) then ((some (x7.take (x9 : Int).toNat : List Int)).bind fun y635 => (if y632.length + y635.length < 17592186044416 then ((some (y632 ++ y635 : List Int)).bind fun y640 => ((some (([x8] : List Int) : List Int)).bind fun y643 => (if y640.length + y643.length < 17592186044416 then ((some (y640 ++ y643 : List Int)).bind fun y646 => ((some (x7.drop (x9 : Int).toNat : List Int)).bind fun y649 => (if y646.length + y649.length < 17592186044416 then (cordonref11_Sort.l0 k x0 x1 x2 (y646 ++ y649) (wrap64 (x8 + 1))) else (none)))) else (none)))) else (none))) else (none)) else (none))))))) else (none)) else (none)) else ((some (([] : List Int) : List Int)).bind fun y657 => (if 0 ≤ x9 then (if x9 ≤ (x7.length : Int) then ((some (x7.take (x9 : Int).toNat : List Int)).bind fun y660 => (if y657.length + y660.length < 17592186044416 then ((some (y657 ++ y660 : List Int)).bind fun y665 => ((some (([x8] : List Int) : List Int)).bind fun y668 => (if y665.length + y668.length < 17592186044416 then ((some (y665 ++ y668 : List Int)).bind fun y671 => ((some (x7.drop (x9 : Int).toNat : List Int)).bind fun y674 => (if y671.length + y674.length < 17592186044416 then (cordonref11_Sort.l0 k x0 x1 x2 (y671 ++ y674) (wrap64 (x8 + 1))) else (none)))) else (none)))) else (none))) else (none)) else (none)))
def cordonref11_Sort.l2 : Nat → List (List (S33)) → List Int → List (List (S33)) → Int → Option ((List (List (S33))))
  | 0, _, _, _, _ => none
  | k + 1, x0, x7, x10, x11 => if x11 < (x7.length : Int) then (if 0 ≤ x11 then (if 0 ≤ (rd x7 x11) then (if (rd x7 x11) < (x0.length : Int) then ((some (([rd_L4 x0 (rd x7 x11)] : List (List (S33))) : List (List (S33)))).bind fun y684 => (if x10.length + y684.length < 5864062014805 then (cordonref11_Sort.l2 k x0 x7 (x10 ++ y684) (wrap64 (x11 + 1))) else (none))) else (none)) else (none)) else (none)) else (some x10)
end
def cordonref11_Sort.f (k : Nat) (l0 : List (List (S33))) (l1 : List (List (S33))) (l2 : List Bool) : Option ((List (List (S33)))) := cordonref11_Sort.l0 k l0 l1 l2 ([] : List Int) 0
end Go.Proofs.Ythghflgmeepnlaa.Pa
end
section
namespace Go.Proofs.Ythghflgmeepnlaa.Pa
open Go.RowKit Go.Proofs.YthghflgmeepnlaaW.PrintWords Go.Proofs.YthghflgmeepnlaaW.PrintLast Go.Proofs.YthghflgmeepnlaaW.PrintMore
set_option linter.unusedVariables false
set_option linter.unusedSimpArgs false
theorem right_size {x : S33} (h : rightV x = 0) : x.f2.size ≤ 1100 := by
  by_cases h3 : x.f0 = 3
  · have := right_small h h3; omega
  · have e : txt x.f2 = [] := by
      unfold rightV at h
      by_cases h0 : x.f0 = 0
      · rw [if_pos h0] at h
        by_cases q : x.f1 = 0 ∧ txt x.f2 = []
        · exact q.2
        · rw [if_neg q] at h; cases h
      · rw [if_neg h0] at h
        by_cases h1 : x.f0 = 1
        · rw [if_pos h1] at h
          by_cases q : (x.f1 = 0 ∨ x.f1 = 1) ∧ txt x.f2 = []
          · exact q.2
          · rw [if_neg q] at h; cases h
        · rw [if_neg h1] at h
          by_cases h2 : x.f0 = 2
          · rw [if_pos h2] at h
            by_cases q : txt x.f2 = []
            · exact q
            · rw [if_neg q] at h; cases h
          · rw [if_neg h2, if_neg h3] at h; cases h
    have l := txt_length x.f2
    rw [e] at l
    simp at l
    omega
/-- R.Order is how two keys stand. -/
theorem rorder11 (x0 x1 : List S33) (d : List Bool) (h0 : gR x0) (h1 : gR x1) (hd : d.length ≤ maxLen) (k : Nat) : cordonref11_Order.f (k + 2400) x0 x1 d = some (ordD x0 x1 d) := by
  have hro : ∀ (i k : Nat), i < x0.length → i < x1.length → cordonref01_Order.f (k + 2202) (rd_T33 x0 (i : Int)).f0 (rd_T33 x0 (i : Int)).f1 (rd_T33 x0 (i : Int)).f2 (rd_T33 x1 (i : Int)).f0 (rd_T33 x1 (i : Int)).f1 (rd_T33 x1 (i : Int)).f2 = some (ordS (rd_T33 x0 (i : Int)) (rd_T33 x1 (i : Int))) := fun i k hi hj =>
    rorder_is _ _ (right_size (h0.2 _ (by
      have e : rd_T33 x0 (i : Int) = x0[i] := by unfold rd_T33; simp [List.getD_eq_getElem?_getD, List.getElem?_eq_getElem hi]
      rw [e]; exact List.getElem_mem hi)).1) k
  have g0 := h0.1
  have g1 := h1.1
  unfold cordonref11_Order.f
  obtain ⟨m, hm1, hm2, hm3, hm4⟩ : ∃ m, x0.length ≤ m ∧ x1.length ≤ m ∧ (m = x0.length ∨ m = x1.length) ∧ m ≤ 40 := by
    rcases Nat.le_total x0.length x1.length with q | q
    · exact ⟨x1.length, q, Nat.le_refl _, .inr rfl, g1⟩
    · exact ⟨x0.length, Nat.le_refl _, q, .inl rfl, g0⟩
  have := rorder_l0 x0 x1 d (by omega) (by omega) hd hro m 0 (k + 190 - 4 * m) (by omega) (by omega) (by omega)
  rw [show k + 190 - 4 * m + 4 * m + 2210 = k + 2400 by omega] at this
  simpa using this
theorem keyL_gR {keys : List (List S33)} (h : ∀ r ∈ keys, gR r) (i : Nat) : gR (keyL keys i) := by
  unfold keyL
  by_cases q : i < keys.length
  · rw [List.getD_eq_getElem?_getD, List.getElem?_eq_getElem q]; exact h _ (List.getElem_mem q)
  · rw [List.getD_eq_getElem?_getD, List.getElem?_eq_none (by omega)]; exact ⟨by simp, by simp⟩
theorem rkey_is (keys : List (List S33)) (i : Nat) : cordonref11_key.f keys (i : Int) = some (keyL keys i) := by
  unfold cordonref11_key.f
  by_cases q : (i : Int) < (keys.length : Int)
  · rw [if_pos q, if_pos (by omega), keyL_rd]
  · rw [if_neg q]
    unfold keyL
    rw [List.getD_eq_getElem?_getD, List.getElem?_eq_none (by omega)]; rfl
/-- One place put in, from behind. -/
def insR (cf : Nat → Nat → Int) (i : Nat) : List Nat → List Nat → List Nat
  | [], V => i :: V
  | u :: U, V => if cf u i > 0 then insR cf i U (u :: V) else (u :: U).reverse ++ i :: V
theorem insR_pos {cf : Nat → Nat → Int} {i u : Nat} {U V : List Nat} (c : cf u i > 0) : insR cf i (u :: U) V = insR cf i U (u :: V) := by rw [insR, if_pos c]
theorem insR_neg {cf : Nat → Nat → Int} {i u : Nat} {U V : List Nat} (c : ¬ cf u i > 0) : insR cf i (u :: U) V = (u :: U).reverse ++ i :: V := by rw [insR, if_neg c]
theorem insR_ok {cf : Nat → Nat → Int} (h : OrdP cf) (i : Nat) : ∀ (U V : List Nat), (U.reverse ++ V).Pairwise (ltP cf) → (∀ x ∈ U, x < i) → (∀ v ∈ V, cf v i > 0) →
    (insR cf i U V).Perm (i :: (U.reverse ++ V)) ∧ (insR cf i U V).Pairwise (ltP cf)
  | [], V, hs, hu, hv => by
    refine ⟨by simp [insR], ?_⟩
    unfold insR
    refine List.pairwise_cons.2 ⟨fun v hv' => .inl (by have := hv v hv'; have := h.anti i v; omega), by simpa using hs⟩
  | u :: U, V, hs, hu, hv => by
    unfold insR
    by_cases c : cf u i > 0
    · rw [if_pos c]
      have e : (u :: U).reverse ++ V = U.reverse ++ (u :: V) := by simp
      rw [e] at hs ⊢
      exact insR_ok h i U (u :: V) hs (fun x hx => hu x (List.mem_cons_of_mem _ hx)) (fun v hv' => by
        rcases List.mem_cons.1 hv' with q | q
        · rw [q]; exact c
        · exact hv v q)
    · rw [if_neg c]
      refine ⟨List.perm_middle, ?_⟩
      have hui : ltP cf u i := by
        have := hu u (by simp)
        rcases Int.lt_or_eq_of_le (Int.not_lt.1 c) with q | q
        · exact .inl q
        · exact .inr ⟨q, this⟩
      refine put_ok hs (fun x hx => ?_) (fun v hv' => .inl (by have := hv v hv'; have := h.anti i v; omega))
      rw [List.reverse_cons] at hx hs
      rcases List.mem_append.1 hx with q | q
      · have h1 := (List.pairwise_append.1 (List.pairwise_append.1 hs).1).2.2 x q u (by simp)
        exact ltP_trans h h1 hui
      · rw [List.mem_singleton.1 q]; exact hui
theorem insR_len (cf : Nat → Nat → Int) (i : Nat) : ∀ (U V : List Nat), (insR cf i U V).length = U.length + V.length + 1
  | [], V => by simp [insR]
  | u :: U, V => by
    unfold insR
    split
    · rw [insR_len cf i U (u :: V)]; simp; omega
    · simp; omega
abbrev zN (l : List Nat) : List Int := l.map (fun (n : Nat) => (n : Int))
theorem rd_mid (A B : List Nat) (x : Nat) : rd (zN (A ++ x :: B)) (A.length : Int) = (x : Int) := by
  unfold rd zN
  rw [Int.toNat_natCast, List.map_append, List.getD_eq_getElem?_getD, List.getElem?_append_right (by simp)]
  simp
theorem rout_l2 (l : List (List S33)) (Z : List Nat) (hZ : ∀ z ∈ Z, z < l.length) (hn : Z.length < 1000000) (m : Nat) : ∀ (j K : Nat) (out : List (List S33)), j + m = Z.length → out.length = j → K ≥ m + 1 → cordonref11_Sort.l2 K l (zN Z) out (j : Int) = some (out ++ (Z.drop j).map (keyL l)) := by
  induction m with
  | zero =>
    intro j K out hj ho hK
    obtain ⟨K', rfl⟩ : ∃ K', K = K' + 1 := ⟨K - 1, by omega⟩
    rw [cordonref11_Sort.l2, if_neg (by simp [zN]; omega), List.drop_eq_nil_of_le (by omega)]
    simp
  | succ m ih =>
    intro j K out hj ho hK
    obtain ⟨K', rfl⟩ : ∃ K', K = K' + 1 := ⟨K - 1, by omega⟩
    have hjz : j < Z.length := by omega
    have hr : rd (zN Z) (j : Int) = (Z[j] : Int) := by
      unfold rd zN
      rw [Int.toNat_natCast, List.getD_eq_getElem?_getD, List.getElem?_map, List.getElem?_eq_getElem hjz]
      rfl
    have hz := hZ Z[j] (List.getElem_mem hjz)
    rw [cordonref11_Sort.l2, if_pos (by simp [zN]; omega), hr, if_pos (by omega), if_pos (by omega), if_pos (by omega), Option.bind_some, if_pos (by simp; omega), wrapN j (by omega), keyL_rd,
      ih (j + 1) K' _ (by omega) (by simp; omega) (by omega), List.drop_eq_getElem_cons hjz, List.append_assoc]
    rfl
section
variable (l keys : List (List S33)) (d : List Bool) (hk : ∀ r ∈ keys, gR r) (hd : d.length ≤ maxLen)
include hk hd
theorem rins_l1 (i : Nat) (hi : i < 1000000) : ∀ (U V : List Nat) (K : Nat), U.length + V.length < 1000000 → K ≥ U.length + 2402 → ∃ K', K ≤ K' + U.length + 1 ∧
    cordonref11_Sort.l1 K l keys d (zN (U.reverse ++ V)) (i : Int) (U.length : Int) = cordonref11_Sort.l0 K' l keys d (zN (insR (fun a b => ordD (keyL keys a) (keyL keys b) d) i U V)) ((i + 1 : Nat) : Int)
  | [], V, K, hl, hK => by
    obtain ⟨K', rfl⟩ : ∃ K', K = K' + 1 := ⟨K - 1, by omega⟩
    refine ⟨K', by simp, ?_⟩
    have hw : wrap64 ((i : Int) + 1) = ((i + 1 : Nat) : Int) := by unfold wrap64; omega
    rw [cordonref11_Sort.l1, if_neg (by simp), hw]
    have hl2 : V.length < 1000000 := by simpa using hl
    simp only [Option.bind_some, List.length_nil, insR, List.reverse_nil, List.nil_append]
    rw [if_pos (by simp), if_pos (by simp), if_pos (by simp), if_pos (by simp), if_pos (by simp; omega)]
    simp
  | u :: U, V, K, hl, hK => by
    obtain ⟨K', rfl⟩ : ∃ K', K = K' + 1 := ⟨K - 1, by omega⟩
    simp only [List.length_cons] at hl hK ⊢
    have hw : wrap64 ((i : Int) + 1) = ((i + 1 : Nat) : Int) := by unfold wrap64; omega
    have hw2 : wrap64 (((U.length + 1 : Nat) : Int) - 1) = (U.length : Int) := by unfold wrap64; omega
    have e : (u :: U).reverse ++ V = U.reverse ++ (u :: V) := by simp
    have hrd : rd (zN (U.reverse ++ (u :: V))) (U.length : Int) = (u : Int) := by
      have := rd_mid U.reverse V u
      rwa [List.length_reverse] at this
    have ho : cordonref11_Order.f K' (keyL keys u) (keyL keys i) d = some (ordD (keyL keys u) (keyL keys i) d) := by
      have := rorder11 (keyL keys u) (keyL keys i) d (keyL_gR hk u) (keyL_gR hk i) hd (K' - 2400)
      rwa [show K' - 2400 + 2400 = K' by omega] at this
    rw [cordonref11_Sort.l1, if_pos (by omega), hw2, if_pos (by omega), if_pos (by simp; omega), e, hrd, rkey_is, Option.bind_some, rkey_is, Option.bind_some, ho, Option.bind_some]
    by_cases c : ordD (keyL keys u) (keyL keys i) d > 0
    · rw [if_pos c]
      obtain ⟨K2, h1, h2⟩ := rins_l1 i hi U (u :: V) K' (by simp; omega) (by omega)
      refine ⟨K2, by omega, ?_⟩
      rw [h2, insR_pos (cf := fun a b => ordD (keyL keys a) (keyL keys b) d) c]
    · rw [if_neg c]
      refine ⟨K', by omega, ?_⟩
      rw [hw, insR_neg (cf := fun a b => ordD (keyL keys a) (keyL keys b) d) c]
      simp only [Option.bind_some, List.length_nil]
      rw [if_pos (by omega), if_pos (by simp; omega), if_pos (by simp; omega), if_pos (by simp; omega), if_pos (by simp; omega)]
      congr 1
      rw [Int.toNat_natCast]
      have e2 : zN (U.reverse ++ u :: V) = (zN (U.reverse ++ [u])) ++ zN V := by simp [zN]
      have l2 : (zN (U.reverse ++ [u])).length = U.length + 1 := by simp [zN]
      rw [e2, ← l2, List.take_left, List.drop_left]
      simp [zN]
theorem rsort_l0 (hl : l.length ≤ 40) (m : Nat) : ∀ (i K : Nat) (A : List Nat), i + m = l.length → A.length = i → A.Perm (List.range i) → A.Pairwise (ltP (fun a b => ordD (keyL keys a) (keyL keys b) d)) → K ≥ m * 50 + 2500 →
    ∃ Z : List Nat, Z.Perm (List.range l.length) ∧ Z.Pairwise (ltP (fun a b => ordD (keyL keys a) (keyL keys b) d)) ∧ cordonref11_Sort.l0 K l keys d (zN A) (i : Int) = some (Z.map (keyL l)) := by
  induction m with
  | zero =>
    intro i K A hi hA hp hs hK
    obtain ⟨K', rfl⟩ : ∃ K', K = K' + 1 := ⟨K - 1, by omega⟩
    have e : i = l.length := by omega
    subst e
    refine ⟨A, hp, hs, ?_⟩
    rw [cordonref11_Sort.l0, if_neg (by omega)]
    have := rout_l2 l A (fun z hz => by simpa using hp.mem_iff.1 hz) (by omega) A.length 0 K' [] (by omega) rfl (by omega)
    simpa using this
  | succ m ih =>
    intro i K A hi hA hp hs hK
    obtain ⟨K', rfl⟩ : ∃ K', K = K' + 1 := ⟨K - 1, by omega⟩
    have ho := ordP_keys keys d
    obtain ⟨K2, h1, h2⟩ := rins_l1 l keys d hk hd i (by omega) A.reverse [] K' (by simp; omega) (by simp; omega)
    rw [List.reverse_reverse, List.append_nil] at h2
    rw [List.length_reverse] at h1 h2
    have hok := insR_ok ho i A.reverse [] (by simpa using hs) (fun x hx => by have := hp.mem_iff.1 (List.mem_reverse.1 hx); simpa using this) (by simp)
    rw [List.reverse_reverse, List.append_nil] at hok
    have hlen := insR_len (fun a b => ordD (keyL keys a) (keyL keys b) d) i A.reverse []
    rw [List.length_reverse] at hlen
    obtain ⟨Z, p, s, e⟩ := ih (i + 1) K2 _ (by omega) (by rw [hlen]; simp; omega) (hok.1.trans (by
      rw [List.range_succ]
      exact (List.Perm.cons i hp).trans (List.perm_append_comm (l₁ := [i])))) hok.2 (by omega)
    refine ⟨Z, p, s, ?_⟩
    rw [cordonref11_Sort.l0, if_pos (by omega)]
    have e3 : ((zN A).length : Int) = (A.length : Int) := by simp [zN]
    rw [e3, h2, e]
/-- R.Sort is the rows at the places, sorted. -/
theorem rsort_is (hl : l.length ≤ 40) : ∃ (k : Nat) (Z : List Nat), Z.Perm (List.range l.length) ∧ Z.Pairwise (ltP (fun a b => ordD (keyL keys a) (keyL keys b) d)) ∧ cordonref11_Sort.f k l keys d = some (Z.map (keyL l)) := by
  obtain ⟨Z, p, s, e⟩ := rsort_l0 l keys d hk hd hl l.length 0 (l.length * 50 + 2500) [] (by omega) rfl (by simp) List.Pairwise.nil (Nat.le_refl _)
  exact ⟨_, Z, p, s, by unfold cordonref11_Sort.f; exact e⟩
end
end Go.Proofs.Ythghflgmeepnlaa.Pa
end
section
namespace Go.Proofs.Ythghflgmeepnlaa.Pa
open Go.RowKit Go.Proofs.YthghflgmeepnlaaW.PrintWords Go.Proofs.YthghflgmeepnlaaW.PrintLast Go.Proofs.YthghflgmeepnlaaW.PrintMore
set_option linter.unusedVariables false
set_option linter.unusedSimpArgs false
theorem made_ints (n : Nat) : madeCells (Value.int .i64 0).cells (n * 1) = ((List.replicate n 0).map enN).toArray := by
  rw [Nat.mul_one]
  apply Array.ext'
  simp [madeCells, Value.cells]
  apply List.ext_getElem
  · simp
  · intro i h1 h2
    simp [Nat.mod_one]
theorem make_ints (n : Nat) (h : n < 1000000000) (w : World) :
    Sem.run Try.prog (Instr.makeSlice 23 (.int .i64 (n : Int)) (.int .i64 (n : Int))) w = Result.ok (.slice (some ⟨w.heap.size, 0, none⟩) n n) (w.alloc (.cells ((List.replicate n 0).map enN).toArray 3)) := by
  obtain ⟨i, hi, hz0, hz1, hz2⟩ := info_parts (show (Try.prog.info? 3).map (fun i => (i.zero, i.size, i.bytes)) = some (some (.int .i64 0), 1, 8) from by kernel_rfl)
  have := run_make (P := Try.prog) w 23 3 i (.int .i64 0) Try.underlying23 hi hz0 .i64 .i64 n n (by omega) (Int.le_refl _) (by rw [hz2]; omega) (by omega)
  rw [Int.toNat_natCast, hz1, made_ints] at this
  exact this
theorem al_size (w : World) (o : Obj) : (w.alloc o).heap.size = w.heap.size + 1 := by show (w.heap.push o).size = _; simp
theorem al3 (w : World) (a b c : Obj) : (((w.alloc a).alloc b).alloc c).heap[w.heap.size]? = some a ∧ (((w.alloc a).alloc b).alloc c).heap[w.heap.size + 1]? = some b ∧ (((w.alloc a).alloc b).alloc c).heap[w.heap.size + 2]? = some c := by
  refine ⟨?_, ?_, ?_⟩
  · rw [heap_alloc_old _ c (by rw [al_size, al_size]; omega)]; exact heap_alloc2_old w a b
  · rw [heap_alloc_old _ c (by rw [al_size, al_size]; omega)]; exact heap_alloc2_new w a b
  · have := heap_alloc_new ((w.alloc a).alloc b) c
    rwa [al_size, al_size] at this
/-- The two boxes of a call, and what lay ahead of it. -/
structure Boxes (w : World) (kv dv : Value) (W : World) : Prop where
  kb : W.heap[w.heap.size]? = some (.cells #[kv] 58 (0, 0))
  db : W.heap[w.heap.size + 1]? = some (.cells #[dv] 59 (0, 0))
  below : Below w.heap.size w W
theorem Boxes.grown {w W W1 : World} {kv dv : Value} (h : Boxes w kv dv W) (hg : W.grownBy W1 (some (w.heap.size + 2))) : Boxes w kv dv W1 :=
  ⟨(hg.block _ (lt_of_block h.kb) (by simp)).trans h.kb, (hg.block _ (lt_of_block h.db) (by simp)).trans h.db, pw_below_grown h.below _ h.below.size hg (fun k hk => by injection hk with hk; omega)⟩
theorem Boxes.later {w W W1 : World} {kv dv : Value} (h : Boxes w kv dv W) (hb : Below W.heap.size W W1) : Boxes w kv dv W1 :=
  ⟨(hb.block _ (lt_of_block h.kb)).trans h.kb, (hb.block _ (lt_of_block h.db)).trans h.db, below_step h.below hb⟩
theorem cmp_ok {W : World} {fb kb db g N b1 b2 : Nat} {A1 A2 : Option Addr} {c1 c2 : Nat} {keys : List (List S33)} {desc : List Bool} {ok1 ok2 : Nat → Prop}
    (hf : W.heap[fb]? = some (.cells #[.func (.func 93) #[] #[.pointer (some ⟨kb, 0, none⟩)]] 100 (0, 0)))
    (hk : W.heap[kb]? = some (.cells #[.slice A1 keys.length c1] 58 (0, 0))) (hd : W.heap[db]? = some (.cells #[.slice A2 desc.length c2] 59 (0, 0)))
    (nf : fb ≠ g) (nk : kb ≠ g) (nd : db ≠ g) (h1 : Kd.V (Kd.slice 33 k33) 22 W b1 ok1 (.slice A1 keys.length c1) keys) (h2 : Kd.V Kd.bool 4 W b2 ok2 (.slice A2 desc.length c2) desc)
    (n1 : ∀ k, ok1 k → k ≠ g) (n2 : ∀ k, ok2 k → k ≠ g) (hkl : ∀ r ∈ keys, r.length < 1000000000) (hdn : desc.length ≤ maxLen) :
    CmpOk 95 #[.pointer (some ⟨fb, 0, none⟩), .pointer (some ⟨db, 0, none⟩)] (fun i j => ordD (keyL keys i) (keyL keys j) desc) N g W := by
  refine ⟨fun x y W1 => enter_of Try.func95 (by kernel_rfl) (by kernel_rfl) _ W1, fun W1 x y hW _ _ => ?_⟩
  have e : (#[enN x, enN y] ++ #[Value.pointer (some ⟨fb, 0, none⟩), Value.pointer (some ⟨db, 0, none⟩)]) = #[enN x, enN y, Value.pointer (some ⟨fb, 0, none⟩), Value.pointer (some ⟨db, 0, none⟩)] := rfl
  rw [e]
  have r1 := Kd.V_reads' (Kd.V_grown h1 hW (fun k hk he => n1 k hk (by injection he)))
  have r2 := Kd.V_reads' (Kd.V_grown h2 hW (fun k hk he => n2 k hk (by injection he)))
  exact cmp_calls x y fb kb db A1 c1 keys A2 c2 desc W1 (cell_of_one ((hW.block _ (lt_of_block hf) (fun he => nf (by injection he))).trans hf))
    (cell_of_one ((hW.block _ (lt_of_block hk) (fun he => nk (by injection he))).trans hk)) (cell_of_one ((hW.block _ (lt_of_block hd) (fun he => nd (by injection he))).trans hd))
    r1.2.2 r2.2.2 r2.2.1 hkl hdn
set_option maxHeartbeats 8000000 in
set_option maxRecDepth 1000000 in
theorem Sort_calls (P0_ P1_ P2_ : Nat → Prop) (A0 : Option Addr) (c0 : Nat) (l0 : List (List S33)) (A1 : Option Addr) (c1 : Nat) (keys : List (List S33)) (A2 : Option Addr) (c2 : Nat) (desc : List Bool) (w : World)
    (hs0 : Kd.V (Kd.slice 33 k33) 22 w w.heap.size (fun k_ => P0_ k_) (.slice A0 l0.length c0) l0)
    (hs1 : Kd.V (Kd.slice 33 k33) 22 w w.heap.size (fun k_ => P1_ k_) (.slice A1 keys.length c1) keys)
    (hs2 : Kd.V Kd.bool 4 w w.heap.size (fun k_ => P2_ k_) (.slice A2 desc.length c2) desc)
    (hl : l0.length < 1000000000) (hkl : ∀ r ∈ keys, r.length < 1000000000) (hdn : desc.length ≤ maxLen)
    (ys : List Nat) (hyl : ys.length = l0.length) (hys : ∀ y ∈ ys, y < l0.length)
    (hsort : ∀ (fk : Nat) (caps : Array Value) (g : Nat) (W : World), CmpOk fk caps (fun i j => ordD (keyL keys i) (keyL keys j) desc) l0.length g W → HoldI W g (List.range l0.length) →
      Calls Try.prog 94 #[.slice (some ⟨g, 0, none⟩) l0.length l0.length, .func (.func fk) #[] caps] W fun e w' => e = .returned (.tuple #[]) ∧ W.grownBy w' (some g) ∧ HoldI w' g ys) :
    Calls Try.prog 57 #[.slice A0 l0.length c0, .slice A1 keys.length c1, .slice A2 desc.length c2] w fun e w' => ∃ v0_ : Value, e = .returned (v0_) ∧ Kd.N (Kd.slice 33 k33) 22 w' w.heap.size (fun k_ => (P0_ k_ ∨ w.heap.size ≤ k_)) v0_ (ys.map (keyL l0)) ∧ Below w.heap.size w w' := by
  have hmk := make_ints l0.length hl
  have hmf : ∀ (fn : Fn) (first cap : Array Value) (w : World), (Instr.makeFunc fn first cap).run Try.prog w = .ok (.func fn first cap) w := fun _ _ _ _ => rfl
  have HV0 := Aside0.mk (Kd.V_bound hs0)
  have HV1 := Aside0.mk (Kd.V_bound hs1)
  have HV2 := Aside0.mk (Kd.V_bound hs2)
  have HB := Aside0.mk (Below.refl w.heap.size w)
  have HS := Aside0.mk hsort
  have HY := Aside0.mk hys
  have HYL := Aside0.mk hyl
  have HKL := Aside0.mk hkl
  have HDN := Aside0.mk hdn
  have HL := Aside0.mk hl
  clear hs0 hs1 hs2 hsort hys hyl hkl hdn hl
  go_enter Try.func57, Try.ntmps57
  go_wp2_with fail
  obtain ⟨ha1, ha2, ha3⟩ := al3 w (Obj.cells #[Value.slice A1 keys.length c1] 58) (Obj.cells #[Value.slice A2 desc.length c2] 59) (Obj.cells (Array.replicate l0.length (enN 0)) 3)
  have HX := Aside0.mk (show Boxes w (.slice A1 keys.length c1) (.slice A2 desc.length c2) (((w.alloc (Obj.cells #[Value.slice A1 keys.length c1] 58)).alloc (Obj.cells #[Value.slice A2 desc.length c2] 59)).alloc (Obj.cells (Array.replicate l0.length (enN 0)) 3)) from ⟨ha1, ha2, below_alloc (below_alloc (below_alloc HB.out _) _) _⟩)
  have HH := Aside0.mk (show HoldI (((w.alloc (Obj.cells #[Value.slice A1 keys.length c1] 58)).alloc (Obj.cells #[Value.slice A2 desc.length c2] 59)).alloc (Obj.cells (Array.replicate l0.length (enN 0)) 3)) (w.heap.size + 2) (List.range 0 ++ List.replicate (l0.length - 0) 0) by
    unfold HoldI
    rw [ha3]
    congr 2
    apply Array.ext'
    simp)
  clear ha1 ha2 ha3
  generalize (((w.alloc (Obj.cells #[Value.slice A1 keys.length c1] 58)).alloc (Obj.cells #[Value.slice A2 desc.length c2] 59)).alloc (Obj.cells (Array.replicate l0.length (enN 0)) 3)) = W1 at HX HH ⊢
  obtain ⟨g, hgE⟩ : ∃ g, g = w.heap.size + 1 + 1 := ⟨_, rfl⟩
  have HGE := Aside0.mk (show g = w.heap.size + 2 from hgE)
  rw [← HGE.out] at HH
  rw [← hgE]
  clear hgE
  go_loopg [18] l0.length (fun kq v18 w' => ∃ i : Nat, v18 = .int .i64 (i : Int) ∧ Aside0 (i + kq = l0.length) ∧ Aside0 (HoldI w' g (List.range i ++ List.replicate (l0.length - i) 0)) ∧ Aside0 (Boxes w (.slice A1 keys.length c1) (.slice A2 desc.length c2) w'))
  case atStart => exact ⟨0, rfl, ⟨by simp⟩, HH, HX⟩
  case round =>
    clear HH HX
    obtain ⟨i, rfl, HI, HH, HX⟩ := hrel
    by_cases c2 : (i : Int) < (l0.length : Int)
    · have c2b : decide ((i : Int) < (l0.length : Int)) = true := decide_eq_true c2
      obtain ⟨k1, rfl⟩ : ∃ k1, gk = k1 + 1 := ⟨gk - 1, by have := HI.out; omega⟩
      have p0 : (0 : Int) ≤ i := by omega
      have hli := HL.out
      have HW := Aside0.mk (show wrap64 ((i : Int) + 1) = ((i + 1 : Nat) : Int) by unfold wrap64; omega)
      clear hli
      have hx : (List.range i ++ List.replicate (l0.length - i) 0)[i]? = some 0 := by
        rw [List.getElem?_append_right (by simp), List.length_range, Nat.sub_self, List.getElem?_replicate, if_pos (by omega)]
      have hc1 := HH.out.cell hx
      have hf1 := HH.out.free i
      clear hx
      have HN := Aside0.mk (show HoldI (wr.setCell ⟨g, i, none⟩ (enN i)) g (List.range (i + 1) ++ List.replicate (l0.length - (i + 1)) 0) by
        have h1 := HH.out.set i i
        rwa [List.set_append_right _ _ (by simp), List.length_range, Nat.sub_self, show l0.length - i = (l0.length - (i + 1)) + 1 by omega, List.replicate_succ, List.set_cons_zero, List.append_cons, ← List.range_succ] at h1)
      have HXN := Aside0.mk (Boxes.grown HX.out (show wr.grownBy (wr.setCell ⟨g, i, none⟩ (enN i)) (some (w.heap.size + 2)) by rw [← HGE.out]; exact gr_set ⟨rfl, rfl, rfl, Nat.le_refl _, fun _ _ _ => rfl⟩ _))
      go_wp2
      go_roundg k1
      case measure => omega
      case rel => exact ⟨i + 1, by rw [HW.out], ⟨by have := HI.out; omega⟩, HN, HXN⟩
    · have c2b : decide ((i : Int) < (l0.length : Int)) = false := decide_eq_false c2
      have e13 : i = l0.length := by have := HI.out; omega
      subst e13
      have HH2 := Aside0.mk (show HoldI wr g (List.range l0.length) by have h1 := HH.out; rwa [Nat.sub_self, List.replicate_zero, List.append_nil] at h1)
      clear HH
      have hna : (wr.alloc (.cells #[.nilFunc] 100)).heap[wr.heap.size]? = some (.cells #[.nilFunc] 100 (0, 0)) := heap_alloc_new _ _
      have hca := cell_of_one hna
      have hfa := free_of_one hna
      obtain ⟨F, hF⟩ : ∃ F, F = Value.func (Fn.func 93) #[] #[Value.pointer (some { block := w.heap.size, off := 0 })] := ⟨_, rfl⟩
      have hnF := one_setCell (u := F) hna
      have hBF : Below wr.heap.size wr (wr.alloc (.cells #[F] 100)) := (Below.refl _ _).alloc (Nat.le_refl _) _
      have hNF : (wr.alloc (.cells #[F] 100)).heap[wr.heap.size]? = some (.cells #[F] 100 (0, 0)) := heap_alloc_new _ _
      rw [hF] at hNF hBF
      have HBF := Aside0.mk hBF
      have HNF := Aside0.mk hNF
      clear hna hnF hF hNF hBF
      go_wp2_with fail
      generalize hWW : (wr.alloc (Obj.cells #[Value.func (Fn.func 93) #[] #[Value.pointer (some { block := w.heap.size, off := 0 })]] 100)) = W2 at HBF HNF ⊢
      clear hWW
      have HX2 := Aside0.mk (HX.out.later HBF.out)
      have HH3 := Aside0.mk (HH2.out.below HBF.out)
      have HFB := Aside0.mk (show wr.heap.size ≠ g by have := HH2.out.lt; omega)
      have hge := HGE.out
      have HCK := cmp_ok (N := l0.length) HNF.out HX2.out.kb HX2.out.db HFB.out (by omega) (by omega) (Kd.V_below HV1.out HX2.out.below) (Kd.V_below HV2.out HX2.out.below) (fun k hk => by have := hk.2; omega) (fun k hk => by have := hk.2; omega) HKL.out HDN.out
      refine (HS.out _ _ _ _ HCK HH3.out).mono ?_
      rintro e w3 ⟨rfl, hg3, hh3⟩
      rw [hge] at hg3
      have HX3 := Aside0.mk (HX2.out.grown hg3)
      have HY3 := Aside0.mk hh3
      have HV3 := Aside0.mk (Kd.V_below HV0.out HX3.out.below)
      have HB3 := Aside0.mk HX3.out.below
      clear hge HCK hg3 hh3 HX HH2 HBF HNF HX2 HH3 HFB HV1 HV2 HS HKL HDN hmk hmf
      go_wp2_with fail
      go_loopg [10, 32] l0.length (fun kq v10 v32 w' => ∃ (i : Nat), v32 = .int .i64 (i : Int) ∧ Aside0 (i + kq = l0.length) ∧ Aside0 (HoldI w' g ys) ∧ Aside0 (Kd.V (Kd.slice 33 k33) 22 w' w.heap.size (fun k_ => P0_ k_ ∧ k_ < w.heap.size) (.slice A0 l0.length c0) l0) ∧ Aside0 (Kd.N (Kd.slice 33 k33) 22 w' w.heap.size (fun k_ => (P0_ k_ ∧ k_ < w.heap.size) ∨ g < k_) v10 ((ys.take i).map (keyL l0))) ∧ Aside0 (Below w.heap.size w w'))
      case atStart => exact ⟨0, rfl, ⟨by simp⟩, HY3, HV3, ⟨by simpa using Kd.N_nil _ _ _ _ _⟩, HB3⟩
      case round =>
        clear HY3 HV3 HB3 HX3
        obtain ⟨i, rfl, HI, HH, HV, HN, HB⟩ := hrel
        by_cases c3 : (i : Int) < (l0.length : Int)
        · have c3b : decide ((i : Int) < (l0.length : Int)) = true := decide_eq_true c3
          obtain ⟨k1, rfl⟩ : ∃ k1, gk = k1 + 1 := ⟨gk - 1, by have := HI.out; omega⟩
          have p0 : (0 : Int) ≤ i := by omega
          have hli := HL.out
          have HW := Aside0.mk (show wrap64 ((i : Int) + 1) = ((i + 1 : Nat) : Int) by unfold wrap64; omega)
          have hiy : i < ys.length := by have := HYL.out; omega
          obtain ⟨y, hy⟩ : ∃ y, ys[i]? = some y := ⟨ys[i], List.getElem?_eq_getElem hiy⟩
          have hyl := HY.out y (List.mem_of_getElem? hy)
          have hcy := HH.out.cell hy
          have p1 : (0 : Int) ≤ (y : Int) := by omega
          have q1 : (y : Int) < (l0.length : Int) := by omega
          have q1b : decide ((y : Int) < (l0.length : Int)) = true := decide_eq_true q1
          have HT := Aside0.mk (show (ys.take i).map (keyL l0) ++ [keyL l0 y] = (ys.take (i + 1)).map (keyL l0) by
            rw [List.take_add_one, hy]; simp)
          have HTL := Aside0.mk (show ((ys.take i).map (keyL l0)).length < 1000000000 by rw [List.length_map, List.length_take]; omega)
          clear hli hiy hy hyl
          obtain ⟨ad, Ay, cy, e1, hx1, hl1, hi1⟩ := at_L4 (Kd.V_reads' HV.out).2.2 (y : Int) p1 q1
          cases e1
          obtain ⟨ce, hce, hMe, hcc⟩ := Kd.V_get HV.out [] (y : Int) p1 q1
          obtain ⟨ua, uc, rfl, ul, ge⟩ := Kd.FK_slice_open hMe
          have hv := hcc 0 _ rfl
          rw [Nat.add_zero, show ((Kd.slice 33 k33)).sz = 1 from rfl, Nat.mul_one] at hv
          replace hv := Option.some.inj (hv.symm.trans hx1)
          injection hv with hva_ hvn_ hvc_
          rw [hva_] at ge
          rw [hvc_] at ul
          rw [show l0.getD (y : Int).toNat [] = keyL l0 y by simp [keyL]] at ge ul
          have HF := Aside0.mk (show Kd.V k33 33 _ w.heap.size _ (.slice Ay (keyL l0 y).length cy) (keyL l0 y) from Kd.V_mk ul ge)
          clear hva_ hvn_ hvc_ ge ul hcc hce hMe hi1 hl1
          rw [keyL_rd] at hx1
          simp only [Int.toNat_natCast] at hx1
          obtain ⟨Ao, co, eo⟩ := Kd.N_slice HN.out
          subst eo
          obtain ⟨x10, hx10⟩ : ∃ x, x = (ys.take i).map (keyL l0) := ⟨_, rfl⟩
          rw [← hx10] at HN HT HTL ⊢
          clear hx10
          go_wp2_with ((with_reducible refine gate_builtin (b := .append) (xs := #[.tmp 36, .tmp 41]) rfl ?_); at_builtin; refine Kd.N_append (Kd.slice 33 k33) (w0 := w) w.heap.size rfl (.tmp 36) (.tmp 41) 58 22 (.slice none 0 0) 24 rfl Try.underlying58 info22 rfl (by decide) (by omega) (.slice Ao x10.length co) x10 (keyL l0 y) [.slice Ay (keyL l0 y).length cy] (fun k_ => (P0_ k_ ∧ k_ < w.heap.size) ∨ g < k_) (fun k_ => P0_ k_ ∧ k_ < w.heap.size) rfl rfl ?aP ?aK ?aF ?aO ?aB ?aS ?aL ?_; (case aP => exact (Kd.FK_slice_mk (Kd.V_reads' HF.out).2.1 (Kd.V_F HF.out))); (case aK => exact (fun k hk => ⟨.inl hk, fun he => by have h1 := N_base HN.out k he.symm; have h2 := hk.2; omega⟩)); (case aB => exact HB.out); (case aF => exact (fun k hk => .inr (Nat.lt_of_lt_of_le HH.out.lt hk))); (case aO => exact HN.out); (case aS => exact below_size HB.out); (case aL => have := HTL.out; omega); intro v9 w9 ho hb hg hat; have HN9 := Aside0.mk ho; have HB9 := Aside0.mk hb; have HV9 := Aside0.mk (Kd.V_grown HV.out hg (fun k hk he => by have h1 := N_base HN.out k he.symm; have h2 := hk.2; omega)); have HH9 := Aside0.mk (show HoldI w9 g ys from (hg.block g HH.out.lt (fun he => by have h1 := HN.out.1 _ he.symm; have h2 := HGE.out; rcases h1 with h1 | h1 <;> omega)).trans HH.out); clear ho hb hg hat HN HB HV HF HH)
          go_roundg k1
          case measure => omega
          case rel => exact ⟨i + 1, by rw [HW.out], ⟨by have := HI.out; omega⟩, HH9, HV9, ⟨by rw [← HT.out]; exact HN9.out⟩, HB9⟩
        · have c3b : decide ((i : Int) < (l0.length : Int)) = false := decide_eq_false c3
          have hN := HN.out
          have hge := HGE.out
          rw [List.take_of_length_le (by have := HI.out; have := HYL.out; omega)] at hN
          have HN2 := Aside0.mk (Kd.N_mono (ok' := fun k_ => P0_ k_ ∨ w.heap.size ≤ k_) hN (fun k hk => hk.imp (fun h => h.1) (fun h => by omega)))
          obtain ⟨Ao, co, eo⟩ := Kd.N_slice HN2.out
          subst eo
          clear hN hge HN
          go_wp2
          go_ret
          exact ⟨_, rfl, by have h := HN2.out; rw [List.length_map] at h; exact h, HB.out⟩
end Go.Proofs.Ythghflgmeepnlaa.Pa
end
section
namespace Go.Proofs.Ythghflgmeepnlaa.Pa
open Go.RowKit Go.Proofs.YthghflgmeepnlaaW.PrintWords Go.Proofs.YthghflgmeepnlaaW.PrintLast Go.Proofs.YthghflgmeepnlaaW.PrintMore
set_option linter.unusedVariables false
set_option linter.unusedSimpArgs false
theorem below_grown_none {W W1 : World} (h : W.grownBy W1 none) : Below W.heap.size W W1 := ⟨h.os, h.tape, h.output, h.size, fun k hk => h.block k hk (by simp)⟩
theorem V_lit {α : Type} (d : Kd α) (e : Nat) {W : World} {xs : List α} {inner : List Value} (hrep : Reps (Kd.FK d W (fun _ => True)) d.sz xs inner) (hm : xs.length ≤ 9223372036854775807) :
    Kd.V d e (W.alloc (.cells inner.toArray e)) 0 (fun _ => True) (.slice (some ⟨W.heap.size, 0, none⟩) xs.length xs.length) xs := by
  have hR : (Kd.raw d.sz).R e (W.alloc (.cells inner.toArray e)) 0 (fun k => k = W.heap.size) (.slice (some ⟨W.heap.size, 0, none⟩) xs.length xs.length) (Kd.chunks d.sz xs.length inner) := by
    refine ⟨fun k hk => ?_, inner, ?_, ?_⟩
    · have : W.heap.size = k := by simpa [Value.ownBlock] using hk
      exact this.symm
    · have h2 := World.ownsRow_lit (base := 0) (e := e) (size := d.sz) W inner.toArray xs.length (Nat.zero_le _) (by simpa [maxLen] using hm) (by simpa using hrep.1)
      rw [Kd.chunks_length]
      have h3 : (W.alloc (Obj.cells inner.toArray e)).ownsRow 0 e d.sz (Value.slice (some { block := W.heap.size, off := 0 }) xs.length xs.length) xs.length inner := by simpa using h2
      exact h3
    · exact Kd.reps_raw hrep (fun y c hk => ⟨d.K_len (Kd.FK_now hk), d.K_one (Kd.FK_now hk)⟩)
  exact Kd.N_V (Kd.N_made hR (World.grownBy_alloc W _ none) ⟨W.heap.size, by simp [Value.ownBlock], Nat.le_refl _⟩ (Kd.chunks_length _ _ _) (fun j y c hy hc => by rw [Kd.chunks_get hc]; exact hrep.2 j y hy) (fun _ h => h) trivial)
def r1 : List S33 := [⟨2, 1, ⟨#[]⟩⟩]
def r2 : List S33 := [⟨2, 2, ⟨#[]⟩⟩]
def r0 : List S33 := [⟨0, 0, ⟨#[]⟩⟩]
theorem one1 : cordonlaw11_one.f 1 = some r1 := by rfl
theorem one2 : cordonlaw11_one.f 2 = some r2 := by rfl
theorem ex_dist : distinctL [r1, r2, r1] = [r1, r2] := by kernel_rfl
theorem ex_sort : insS (fun i j => ordD (keyL [r2, r1, r0] i) (keyL [r2, r1, r0] j) []) 0 3 (List.range 3) = [2, 1, 0] := by decide +kernel
theorem ex_group : (groupsL [r2, r1, r0]).length = 3 := by decide +kernel
theorem ex_same1 : cordonref11_Same.f 100 [r1, r2] [r1, r2] = some true := by decide +kernel
theorem ex_same2 : cordonref11_Same.f 100 [r0, r1, r2] [r0, r1, r2] = some true := by decide +kernel
theorem sort_small (n : Nat) (hn : n < 20) (cf : Nat → Nat → Int) (fk : Nat) (caps : Array Value) (g : Nat) (W : World) (hc : CmpOk fk caps cf n g W) (hh : HoldI W g (List.range n)) :
    Calls Try.prog 94 #[.slice (some ⟨g, 0, none⟩) n n, .func (.func fk) #[] caps] W fun e w' => e = .returned (.tuple #[]) ∧ W.grownBy w' (some g) ∧ HoldI w' g (insS cf 0 n (List.range n)) := by
  have h := sortfunc_small hc n (List.range n) hh (by simpa using hn) (fun x hx => List.mem_range.1 hx)
  rw [List.length_range] at h
  exact h
set_option maxHeartbeats 8000000 in
set_option maxRecDepth 1000000 in
theorem alive_calls (w : World) : Calls Try.prog 55 #[] w fun e w' => e = .returned (.bool true) ∧ Below w.heap.size w w' := by
  have HB := Aside0.mk (Below.refl w.heap.size w)
  have hu33 := Try.underlying33
  go_enter Try.func55, Try.ntmps55
  go_wp2_with fail
  refine (cordonlaw11_one.calls 2 r2 _ one2).mono ?_
  rintro e wa ⟨va, rfl, ho, hb⟩
  replace HB := Aside0.mk (below_step HB.out hb)
  clear hb
  have a := Aside0.mk (Kd.R_V (base' := 0) ho)
  clear ho
  obtain ⟨Aa, ca, ea, _, _⟩ := a.out
  subst ea
  go_wp2_with fail
  refine (cordonlaw11_one.calls 1 r1 _ one1).mono ?_
  rintro e wb ⟨vb, rfl, ho, hb⟩
  replace a := Aside0.mk (Kd.V_below a.out hb)
  replace HB := Aside0.mk (below_step HB.out hb)
  clear hb
  have b := Aside0.mk (Kd.R_V (base' := 0) ho)
  clear ho
  obtain ⟨Ab, cb, eb, _, _⟩ := b.out
  subst eb
  go_wp2_with (first
    | ((with_reducible refine gate_dst (N := 5) rfl ?_); refine Kd.N_lit k33 0 33 ?hg (N' := 5) ?hd (xs := r0) (inner := [.int .i64 0, .int .i64 0, .string ⟨#[]⟩]) (ok := fun _ => True) (okp := fun _ => True) ?hr ?hp (fun _ h => h) trivial (Below.refl _ _) (Nat.zero_le _) (by simp [r0]) ?_; (case hd => rfl); (case hg => rfl); (case hr => first | (go_simp; done) | (go_simp; rfl)); (case hp => exact Reps.c3 (Kd.FK_of_M (base := 0) (k33_mkM _ _ _ (⟨0, 0, ⟨#[]⟩⟩ : S33))) (Reps.none _ _)); intro vz wz ho hb_ hg_ hnew_; have hb : Below _ _ wz := below_grown_none hg_; replace a := Aside0.mk (Kd.V_below a.out hb); replace b := Aside0.mk (Kd.V_below b.out hb); replace HB := Aside0.mk (below_step HB.out hb); have z := Aside0.mk (Kd.N_V (base' := 0) ho); (obtain ⟨Az, cz, ez, _, _⟩ := z.out); subst ez; clear ho hb hb_ hg_ hnew_)
    | ((with_reducible refine gate_dst (N := 6) rfl ?_); refine Kd.N_lit (Kd.slice 33 k33) 0 22 ?hg (N' := 6) ?hd (xs := ([r2, r1, r0] : List (List S33))) (inner := [.slice Aa r2.length ca, .slice Ab r1.length cb, .slice Az r0.length cz]) (ok := fun _ => True) (okp := fun _ => True) ?hr ?hp (fun _ h => h) trivial (Below.refl _ _) (Nat.zero_le _) (by simp) ?_; (case hd => rfl); (case hg => rfl); (case hr => first | (go_simp; done) | (go_simp; rfl)); (case hp => exact (Reps.one (show Kd.FK (Kd.slice 33 k33) _ (fun _ => True) r2 [.slice Aa r2.length ca] from Kd.FK_slice_mk (Kd.V_reads' a.out).2.1 (Kd.V_F a.out)) (Reps.one (show Kd.FK (Kd.slice 33 k33) _ (fun _ => True) r1 [.slice Ab r1.length cb] from Kd.FK_slice_mk (Kd.V_reads' b.out).2.1 (Kd.V_F b.out)) (Reps.one (show Kd.FK (Kd.slice 33 k33) _ (fun _ => True) r0 [.slice Az r0.length cz] from Kd.FK_slice_mk (Kd.V_reads' z.out).2.1 (Kd.V_F z.out)) (Reps.none _ _))))); intro vL wL ho hb_ hg_ hnew_; have hb : Below _ _ wL := below_grown_none hg_; replace a := Aside0.mk (Kd.V_below a.out hb); replace b := Aside0.mk (Kd.V_below b.out hb); replace z := Aside0.mk (Kd.V_below z.out hb); replace HB := Aside0.mk (below_step HB.out hb); have L := Aside0.mk (Kd.N_V (base' := 0) ho); (obtain ⟨AL, cL, eL, _, _⟩ := L.out); subst eL; clear ho hb hb_ hg_ hnew_))
  clear a b z
  refine (cordonlaw11_one.calls 1 r1 _ one1).mono ?_
  rintro e wa ⟨va, rfl, ho, hb⟩
  replace L := Aside0.mk (Kd.V_below L.out hb)
  replace HB := Aside0.mk (below_step HB.out hb)
  clear hb
  have a := Aside0.mk (Kd.R_V (base' := 0) ho)
  clear ho
  obtain ⟨Aa, ca, ea, _, _⟩ := a.out
  subst ea
  go_wp2_with fail
  refine (cordonlaw11_one.calls 2 r2 _ one2).mono ?_
  rintro e wb ⟨vb, rfl, ho, hb⟩
  replace L := Aside0.mk (Kd.V_below L.out hb)
  replace a := Aside0.mk (Kd.V_below a.out hb)
  replace HB := Aside0.mk (below_step HB.out hb)
  clear hb
  have b := Aside0.mk (Kd.R_V (base' := 0) ho)
  clear ho
  obtain ⟨Ab, cb, eb, _, _⟩ := b.out
  subst eb
  go_wp2_with fail
  refine (cordonlaw11_one.calls 1 r1 _ one1).mono ?_
  rintro e wd ⟨vd, rfl, ho, hb⟩
  replace L := Aside0.mk (Kd.V_below L.out hb)
  replace a := Aside0.mk (Kd.V_below a.out hb)
  replace b := Aside0.mk (Kd.V_below b.out hb)
  replace HB := Aside0.mk (below_step HB.out hb)
  clear hb
  have d := Aside0.mk (Kd.R_V (base' := 0) ho)
  clear ho
  obtain ⟨Ad, cd, ed, _, _⟩ := d.out
  subst ed
  go_wp2_with (first
    | ((with_reducible refine gate_dst (N := 10) rfl ?_); refine Kd.N_lit (Kd.slice 33 k33) 0 22 ?hg (N' := 10) ?hd (xs := ([r1, r2, r1] : List (List S33))) (inner := [.slice Aa r1.length ca, .slice Ab r2.length cb, .slice Ad r1.length cd]) (ok := fun _ => True) (okp := fun _ => True) ?hr ?hp (fun _ h => h) trivial (Below.refl _ _) (Nat.zero_le _) (by simp) ?_; (case hd => rfl); (case hg => rfl); (case hr => first | (go_simp; done) | (go_simp; rfl)); (case hp => exact (Reps.one (show Kd.FK (Kd.slice 33 k33) _ (fun _ => True) r1 [.slice Aa r1.length ca] from Kd.FK_slice_mk (Kd.V_reads' a.out).2.1 (Kd.V_F a.out)) (Reps.one (show Kd.FK (Kd.slice 33 k33) _ (fun _ => True) r2 [.slice Ab r2.length cb] from Kd.FK_slice_mk (Kd.V_reads' b.out).2.1 (Kd.V_F b.out)) (Reps.one (show Kd.FK (Kd.slice 33 k33) _ (fun _ => True) r1 [.slice Ad r1.length cd] from Kd.FK_slice_mk (Kd.V_reads' d.out).2.1 (Kd.V_F d.out)) (Reps.none _ _))))); intro vP wP ho hb_ hg_ hnew_; have hb : Below _ _ wP := below_grown_none hg_; replace L := Aside0.mk (Kd.V_below L.out hb); replace a := Aside0.mk (Kd.V_below a.out hb); replace b := Aside0.mk (Kd.V_below b.out hb); replace d := Aside0.mk (Kd.V_below d.out hb); replace HB := Aside0.mk (below_step HB.out hb); have P := Aside0.mk (Kd.N_V (base' := 0) ho); (obtain ⟨AP, cP, eP, _, _⟩ := P.out); subst eP; clear ho hb hb_ hg_ hnew_))
  clear a b d
  refine (rows_Distinct_calls (fun _ => True) AP cP [r1, r2, r1] wP P.out (by simp) (by simp [r1, r2]) (fun r hr => by simp only [List.mem_cons, List.not_mem_nil, or_false] at hr; rcases hr with rfl | rfl | rfl <;> exact (by decide +kernel))).mono ?_
  rintro e wD ⟨vD, rfl, ho, hb⟩
  rw [ex_dist] at ho
  clear P
  replace L := Aside0.mk (Kd.V_below L.out hb)
  replace HB := Aside0.mk (below_step HB.out hb)
  clear hb
  have D := Aside0.mk (Kd.V_mono (ok' := fun _ => True) (Kd.N_V (base' := 0) ho) (fun _ _ => trivial))
  clear ho
  obtain ⟨AD, cD, eD, _, _⟩ := D.out
  subst eD
  go_wp2_with fail
  refine (cordonlaw11_one.calls 1 r1 _ one1).mono ?_
  rintro e wa ⟨va, rfl, ho, hb⟩
  replace L := Aside0.mk (Kd.V_below L.out hb)
  replace D := Aside0.mk (Kd.V_below D.out hb)
  replace HB := Aside0.mk (below_step HB.out hb)
  clear hb
  have a := Aside0.mk (Kd.R_V (base' := 0) ho)
  clear ho
  obtain ⟨Aa, ca, ea, _, _⟩ := a.out
  subst ea
  go_wp2_with fail
  refine (cordonlaw11_one.calls 2 r2 _ one2).mono ?_
  rintro e wb ⟨vb, rfl, ho, hb⟩
  replace L := Aside0.mk (Kd.V_below L.out hb)
  replace D := Aside0.mk (Kd.V_below D.out hb)
  replace a := Aside0.mk (Kd.V_below a.out hb)
  replace HB := Aside0.mk (below_step HB.out hb)
  clear hb
  have b := Aside0.mk (Kd.R_V (base' := 0) ho)
  clear ho
  obtain ⟨Ab, cb, eb, _, _⟩ := b.out
  subst eb
  go_wp2_with fail
  have Q := Aside0.mk (V_lit (Kd.slice 33 k33) 22 (W := wb) (xs := [r1, r2]) (inner := [.slice Aa r1.length ca, .slice Ab r2.length cb]) (Reps.one (show Kd.FK (Kd.slice 33 k33) _ (fun _ => True) r1 [.slice Aa r1.length ca] from Kd.FK_slice_mk (Kd.V_reads' a.out).2.1 (Kd.V_F a.out)) (Reps.one (show Kd.FK (Kd.slice 33 k33) _ (fun _ => True) r2 [.slice Ab r2.length cb] from Kd.FK_slice_mk (Kd.V_reads' b.out).2.1 (Kd.V_F b.out)) (Reps.none _ _))) (by simp))
  have D2 := Aside0.mk (Kd.V_alloc D.out (.cells [.slice Aa r1.length ca, .slice Ab r2.length cb].toArray 22))
  refine (cordonref11_Same.calls 100 AD cD [r1, r2] _ _ [r1, r2] true _ (Kd.V_reads' D2.out).2.2 (Kd.V_reads' D2.out).2.1 (Kd.V_reads' Q.out).2.2 (Kd.V_reads' Q.out).2.1 ex_same1).mono ?_
  rintro e w7 ⟨rfl, nd, rfl⟩
  have hb := pw_below_drewN (below_alloc (Below.refl wb.heap.size wb) (.cells [.slice Aa r1.length ca, .slice Ab r2.length cb].toArray 22)) nd
  clear Q D2
  clear D a b
  replace L := Aside0.mk (Kd.V_below L.out hb)
  replace HB := Aside0.mk (below_step HB.out hb)
  clear hb
  generalize ((wb.alloc (.cells [.slice Aa r1.length ca, .slice Ab r2.length cb].toArray 22)).drewN nd) = W1 at L HB ⊢
  go_wp2_with fail
  refine (Sort_calls (fun _ => True) (fun _ => True) (fun _ => True) AL cL [r2, r1, r0] AL cL [r2, r1, r0] none 0 [] W1 L.out L.out (Kd.V_nil _ _ _ _ _) (by simp) (by simp [r0, r1, r2]) (by simp) [2, 1, 0] rfl (by simp) (fun fk caps g W hc hh => by have h := sort_small 3 (by omega) _ fk caps g W hc hh; rw [ex_sort] at h; exact h)).mono ?_
  rintro e wS ⟨vS, rfl, ho, hb⟩
  replace ho : Kd.N (Kd.slice 33 k33) 22 wS W1.heap.size (fun k_ => True ∨ W1.heap.size ≤ k_) vS [r0, r1, r2] := ho
  replace L := Aside0.mk (Kd.V_below L.out hb)
  replace HB := Aside0.mk (below_step HB.out hb)
  clear hb
  have D := Aside0.mk (Kd.V_mono (ok' := fun _ => True) (Kd.N_V (base' := 0) ho) (fun _ _ => trivial))
  clear ho
  obtain ⟨AD, cD, eD, _, _⟩ := D.out
  subst eD
  go_wp2_with fail
  have z := Aside0.mk (V_lit k33 33 (W := wS) (xs := r0) (inner := [.int .i64 0, .int .i64 0, .string ⟨#[]⟩]) (Reps.c3 (Kd.FK_of_M (base := 0) (k33_mkM _ _ _ (⟨0, 0, ⟨#[]⟩⟩ : S33))) (Reps.none _ _)) (by simp [r0]))
  have hb := below_alloc (Below.refl wS.heap.size wS) (.cells #[Value.int .i64 0, Value.int .i64 0, Value.string { data := #[] }] 33)
  replace L := Aside0.mk (Kd.V_below L.out hb)
  replace D := Aside0.mk (Kd.V_below D.out hb)
  replace HB := Aside0.mk (below_step HB.out hb)
  clear hb
  generalize hgz : wS.heap.size = gz at z ⊢
  change Aside0 (Kd.V k33 33 (wS.alloc (Obj.cells #[Value.int IntKind.i64 0, Value.int IntKind.i64 0, Value.string { data := #[] }] 33)) 0 (fun _ => True) (.slice (some ⟨gz, 0, none⟩) r0.length r0.length) r0) at z
  generalize (wS.alloc (Obj.cells #[Value.int IntKind.i64 0, Value.int IntKind.i64 0, Value.string { data := #[] }] 33)) = W2 at z D L HB ⊢
  clear hgz
  obtain ⟨Az, hAz⟩ : ∃ A : Option Addr, A = some ⟨gz, 0, none⟩ := ⟨_, rfl⟩
  obtain ⟨cz, hcz⟩ : ∃ c : Nat, c = r0.length := ⟨_, rfl⟩
  rw [← hAz] at z
  replace z : Aside0 (Kd.V k33 33 W2 0 (fun _ => True) (.slice Az r0.length cz) r0) := by rw [hcz]; exact z
  refine (cordonlaw11_one.calls 1 r1 _ one1).mono ?_
  rintro e wa ⟨va, rfl, ho, hb⟩
  replace L := Aside0.mk (Kd.V_below L.out hb)
  replace D := Aside0.mk (Kd.V_below D.out hb)
  replace z := Aside0.mk (Kd.V_below z.out hb)
  replace HB := Aside0.mk (below_step HB.out hb)
  clear hb
  have a := Aside0.mk (Kd.R_V (base' := 0) ho)
  clear ho
  obtain ⟨Aa, ca, ea, _, _⟩ := a.out
  subst ea
  go_wp2_with fail
  refine (cordonlaw11_one.calls 2 r2 _ one2).mono ?_
  rintro e wb ⟨vb, rfl, ho, hb⟩
  replace L := Aside0.mk (Kd.V_below L.out hb)
  replace D := Aside0.mk (Kd.V_below D.out hb)
  replace z := Aside0.mk (Kd.V_below z.out hb)
  replace a := Aside0.mk (Kd.V_below a.out hb)
  replace HB := Aside0.mk (below_step HB.out hb)
  clear hb
  have b := Aside0.mk (Kd.R_V (base' := 0) ho)
  clear ho
  obtain ⟨Ab, cb, eb, _, _⟩ := b.out
  subst eb
  subst hAz
  subst hcz
  go_wp2_with fail
  have Q := Aside0.mk (V_lit (Kd.slice 33 k33) 22 (W := wb) (xs := [r0, r1, r2]) (inner := [.slice (some ⟨gz, 0, none⟩) r0.length r0.length, .slice Aa r1.length ca, .slice Ab r2.length cb]) (Reps.one (show Kd.FK (Kd.slice 33 k33) _ (fun _ => True) r0 [.slice (some ⟨gz, 0, none⟩) r0.length r0.length] from Kd.FK_slice_mk (Kd.V_reads' z.out).2.1 (Kd.V_F z.out)) (Reps.one (show Kd.FK (Kd.slice 33 k33) _ (fun _ => True) r1 [.slice Aa r1.length ca] from Kd.FK_slice_mk (Kd.V_reads' a.out).2.1 (Kd.V_F a.out)) (Reps.one (show Kd.FK (Kd.slice 33 k33) _ (fun _ => True) r2 [.slice Ab r2.length cb] from Kd.FK_slice_mk (Kd.V_reads' b.out).2.1 (Kd.V_F b.out)) (Reps.none _ _)))) (by simp))
  have D2 := Aside0.mk (Kd.V_alloc D.out (.cells [.slice (some ⟨gz, 0, none⟩) r0.length r0.length, .slice Aa r1.length ca, .slice Ab r2.length cb].toArray 22))
  refine (cordonref11_Same.calls 100 AD cD [r0, r1, r2] _ _ [r0, r1, r2] true _ (Kd.V_reads' D2.out).2.2 (Kd.V_reads' D2.out).2.1 (Kd.V_reads' Q.out).2.2 (Kd.V_reads' Q.out).2.1 ex_same2).mono ?_
  rintro e w7 ⟨rfl, nd, rfl⟩
  have hb := pw_below_drewN (below_alloc (Below.refl wb.heap.size wb) (.cells [.slice (some ⟨gz, 0, none⟩) r0.length r0.length, .slice Aa r1.length ca, .slice Ab r2.length cb].toArray 22)) nd
  clear Q D2
  clear D a b z
  replace L := Aside0.mk (Kd.V_below L.out hb)
  replace HB := Aside0.mk (below_step HB.out hb)
  clear hb
  generalize ((wb.alloc (.cells [.slice (some ⟨gz, 0, none⟩) r0.length r0.length, .slice Aa r1.length ca, .slice Ab r2.length cb].toArray 22)).drewN nd) = W3 at L HB ⊢
  go_wp2_with fail
  refine (Groups_calls (fun _ => True) AL cL [r2, r1, r0] W3 L.out (by simp) (by simp [r0, r1, r2]) (fun r hr => by simp only [List.mem_cons, List.not_mem_nil, or_false] at hr; rcases hr with rfl | rfl | rfl <;> exact (by decide +kernel))).mono ?_
  rintro e wG ⟨vG, rfl, ho, hb⟩
  replace HB := Aside0.mk (below_step HB.out hb)
  obtain ⟨AG, cG, eG⟩ := Kd.S_slice ho
  rw [ex_group] at eG
  subst eG
  clear hb ho L
  go_wp2
  go_ret
  exact ⟨rfl, HB.out⟩
end Go.Proofs.Ythghflgmeepnlaa.Pa
end
section
namespace Go.Proofs.Ythghflgmeepnlaa.Pa
open Go.RowKit Go.Proofs.YthghflgmeepnlaaW.PrintWords Go.Proofs.YthghflgmeepnlaaW.PrintLast Go.Proofs.YthghflgmeepnlaaW.PrintMore
open Go.Maps
set_option linter.unusedVariables false
set_option linter.unusedSimpArgs false
end Go.Proofs.Ythghflgmeepnlaa.Pa
end
section
namespace Go.Proofs.Ythghflgmeepnlaa.Pa
open Go.RowKit Go.Proofs.YthghflgmeepnlaaW.PrintWords Go.Proofs.YthghflgmeepnlaaW.PrintLast Go.Proofs.YthghflgmeepnlaaW.PrintMore
set_option linter.unusedVariables false
set_option linter.unusedSimpArgs false
end Go.Proofs.Ythghflgmeepnlaa.Pa
end
section
namespace Go.Proofs.Ythghflgmeepnlaa.Pa
open Go.RowKit Go.Proofs.YthghflgmeepnlaaW.PrintWords Go.Proofs.YthghflgmeepnlaaW.PrintLast Go.Proofs.YthghflgmeepnlaaW.PrintMore
set_option linter.unusedVariables false
set_option linter.unusedSimpArgs false
theorem C_V {w : World} {A : Option Addr} {c : Nat} {l : List (List S33)} (h : Kd.C (Kd.slice 33 k33) w A l.length l) (hc : l.length ≤ c) : Kd.V (Kd.slice 33 k33) 22 w 0 (fun _ => True) (.slice A l.length c) l :=
  Kd.V_mono (Kd.V_mk hc (Kd.C_F (Kd.heap_slice 33 k33_heap) h)) (fun _ _ => trivial)
structure Fine (l : List (List S33)) : Prop where
  len : l.length < 1000000000
  good : ∀ r ∈ l, gR r
theorem gL_fine {l : List (List S33)} (h : gL l) : Fine l := ⟨by have := h.1; omega, h.2⟩
/-- R.Same at a list and itself. -/
theorem Same_calls {l : List (List S33)} (h : Fine l) {W : World} {b1 b2 : Nat} {ok1 ok2 : Nat → Prop} {A1 A2 : Option Addr} {c1 c2 : Nat} (h1 : Kd.V (Kd.slice 33 k33) 22 W b1 ok1 (.slice A1 l.length c1) l) (h2 : Kd.V (Kd.slice 33 k33) 22 W b2 ok2 (.slice A2 l.length c2) l) :
    Calls Try.prog 56 #[.slice A1 l.length c1, .slice A2 l.length c2] W fun e w' => e = .returned (.bool true) ∧ Below W.heap.size W w' :=
  (cordonref11_Same.calls (0 + l.length + 62) A1 c1 l A2 c2 l true W (Kd.V_reads' h1).2.2 (Kd.V_reads' h1).2.1 (Kd.V_reads' h2).2.2 (Kd.V_reads' h2).2.1 (rsame_is l h.good h.len 0)).mono fun e w' ⟨he, nd, hw⟩ => ⟨he, by rw [hw]; exact pw_below_drewN (Below.refl _ _) nd⟩
/-- Few's contract at what is read. -/
theorem Few_calls {ls : List (List (List S33))} {r : Bool} {k : Nat} (h : cordonlaw11_Few.f k ls = some r) {W : World} {b : Nat} {ok : Nat → Prop} {A : Option Addr} {c : Nat} (h1 : Kd.V (Kd.slice 22 (Kd.slice 33 k33)) 58 W b ok (.slice A ls.length c) ls) :
    Calls Try.prog 54 #[.slice A ls.length c] W fun e w' => e = .returned (.bool r) ∧ Below W.heap.size W w' :=
  cordonlaw11_Few.calls k A c ls r W (Kd.V_reads' h1).2.2 (Kd.V_reads' h1).2.1 h
end Go.Proofs.Ythghflgmeepnlaa.Pa
namespace Go.Proofs.Ythghflgmeepnlaa.Pure
open Go.RowKit Go.Proofs.Ythghflgmeepnlaa.Pa
end Go.Proofs.Ythghflgmeepnlaa.Pure
end
section
namespace Go.Proofs.Ythghflgmeepnlaa.Pa
open Go.RowKit Go.Proofs.YthghflgmeepnlaaW.PrintWords Go.Proofs.YthghflgmeepnlaaW.PrintLast Go.Proofs.YthghflgmeepnlaaW.PrintMore
set_option linter.unusedVariables false
set_option linter.unusedSimpArgs false
theorem C_Vb {w : World} {A : Option Addr} {c : Nat} {l : List Bool} (h : Kd.C Kd.bool w A l.length l) (hc : l.length ≤ c) : Kd.V Kd.bool 4 w 0 (fun _ => True) (.slice A l.length c) l :=
  Kd.V_mono (Kd.V_mk hc (Kd.C_F Kd.heap_bool h)) (fun _ _ => trivial)
/-- The sort makes the one list of places that is sorted. -/
theorem hsort_ok {l keys : List (List S33)} {desc : List Bool} {Z : List Nat} (hn : l.length ≤ 40) (hp : Z.Perm (List.range l.length)) (hs : Z.Pairwise (ltP (fun a b => ordD (keyL keys a) (keyL keys b) desc))) (fk : Nat) (caps : Array Value) (g : Nat) (W : World)
    (hc : CmpOk fk caps (fun i j => ordD (keyL keys i) (keyL keys j) desc) l.length g W) (hh : HoldI W g (List.range l.length)) :
    Calls Try.prog 94 #[.slice (some ⟨g, 0, none⟩) l.length l.length, .func (.func fk) #[] caps] W fun e w' => e = .returned (.tuple #[]) ∧ W.grownBy w' (some g) ∧ HoldI w' g Z := by
  refine (sortfunc_all (ordP_keys keys desc) hc l.length hh hn).mono ?_
  rintro e w' ⟨he, hg, Z', p', s', h⟩
  have e1 := sorted_one (ordP_keys keys desc) Z' Z s' hs (p'.trans hp.symm)
  rw [e1] at h
  exact ⟨he, hg, h⟩
theorem keys_fine {l Q : List (List S33)} (h : gL l) (Z : List Nat) (hQ : Q = Z.map (keyL l)) (hp : Z.Perm (List.range l.length)) : Fine Q := by
  subst hQ
  exact ⟨by have := hp.length_eq; have := h.1; simp at *; omega, fun r hr => by obtain ⟨z, _, rfl⟩ := List.mem_map.1 hr; exact keyL_gR h.2 z⟩
/-- rows.Sort's contract, of rows that are gone through. -/
theorem Sort_gone {l0 keys Q : List (List S33)} {desc : List Bool} (g0 : gL l0) (g1 : gL keys) (hd : desc.length ≤ maxLen) {Z : List Nat} (hQ : Q = Z.map (keyL l0)) (hp : Z.Perm (List.range l0.length)) (hs : Z.Pairwise (ltP (fun a b => ordD (keyL keys a) (keyL keys b) desc)))
    {A0 A1 A2 : Option Addr} {c0 c1 c2 : Nat} {W : World} {b0 b1 b2 : Nat} (h0 : Kd.V (Kd.slice 33 k33) 22 W b0 (fun _ => True) (.slice A0 l0.length c0) l0) (h1 : Kd.V (Kd.slice 33 k33) 22 W b1 (fun _ => True) (.slice A1 keys.length c1) keys) (h2 : Kd.V Kd.bool 4 W b2 (fun _ => True) (.slice A2 desc.length c2) desc) :
    Calls Try.prog 57 #[.slice A0 l0.length c0, .slice A1 keys.length c1, .slice A2 desc.length c2] W fun e w' => ∃ v0_ : Value, e = .returned (v0_) ∧ Kd.V (Kd.slice 33 k33) 22 w' 0 (fun _ => True) v0_ Q ∧ Below W.heap.size W w' := by
  subst hQ
  refine (Sort_calls (fun _ => True) (fun _ => True) (fun _ => True) A0 c0 l0 A1 c1 keys A2 c2 desc W (Kd.V_mono (Kd.V_bound h0) (fun _ _ => trivial)) (Kd.V_mono (Kd.V_bound h1) (fun _ _ => trivial)) (Kd.V_mono (Kd.V_bound h2) (fun _ _ => trivial)) (by have := g0.1; omega) (fun r hr => by have := (g1.2 r hr).1; omega) hd Z
    (by have := hp.length_eq; simpa using this) (fun y hy => by simpa using hp.mem_iff.1 hy) (fun fk caps g W1 hc hh => hsort_ok g0.1 hp hs fk caps g W1 hc hh)).mono ?_
  rintro e w' ⟨v, he, hv, hb⟩
  exact ⟨v, he, Kd.V_mono (Kd.N_V (base' := 0) hv) (fun _ _ => trivial), hb⟩
end Go.Proofs.Ythghflgmeepnlaa.Pa
namespace Go.Proofs.Ythghflgmeepnlaa.Pure
open Go.RowKit Go.Proofs.Ythghflgmeepnlaa.Pa
end Go.Proofs.Ythghflgmeepnlaa.Pure
end
section
namespace Go.Proofs.Ythghflgmeepnlaa.Pa
open Go.RowKit Go.Proofs.YthghflgmeepnlaaW.PrintWords Go.Proofs.YthghflgmeepnlaaW.PrintLast Go.Proofs.YthghflgmeepnlaaW.PrintMore
set_option linter.unusedVariables false
set_option linter.unusedSimpArgs false
theorem range_keys (l : List (List S33)) : (List.range l.length).map (keyL l) = l := by
  apply List.ext_getElem
  · simp
  · intro i h1 h2
    simp [keyL, List.getD_eq_getElem?_getD, List.getElem?_eq_getElem h2]
theorem sorted_rows {l Q : List (List S33)} {desc : List Bool} {Z : List Nat} (hQ : Q = Z.map (keyL l)) (hp : Z.Perm (List.range l.length)) (hs : Z.Pairwise (ltP (fun a b => ordD (keyL l a) (keyL l b) desc))) :
    Q.Perm l ∧ Q.Pairwise (fun a b => ordD a b desc ≤ 0) := by
  subst hQ
  refine ⟨?_, ?_⟩
  · have := hp.map (keyL l)
    rwa [range_keys] at this
  · rw [List.pairwise_map]
    refine hs.imp (fun h => ?_)
    rcases h with h | ⟨h, _⟩
    · exact Int.le_of_lt h
    · exact Int.le_of_eq h
/-- What is sorted stays. -/
theorem sorted_stays {Q : List (List S33)} (h : Q.Pairwise (fun a b => ordD a b [] ≤ 0)) : (List.range Q.length).Pairwise (ltP (fun a b => ordD (keyL Q a) (keyL Q b) [])) := by
  rw [List.pairwise_iff_getElem] at h ⊢
  intro i j hi hj hij
  simp only [List.length_range] at hi hj
  have := h i j hi hj hij
  have ei : keyL Q i = Q[i] := by simp [keyL, List.getD_eq_getElem?_getD, List.getElem?_eq_getElem hi]
  have ej : keyL Q j = Q[j] := by simp [keyL, List.getD_eq_getElem?_getD, List.getElem?_eq_getElem hj]
  simp only [List.getElem_range]
  unfold ltP
  simp only [ei, ej]
  rcases Int.lt_or_eq_of_le this with q | q
  · exact .inl q
  · exact .inr ⟨q, hij⟩
theorem sorted_next {Q : List (List S33)} {desc : List Bool} (h : Q.Pairwise (fun a b => ordD a b desc ≤ 0)) (i0 i : Nat) (hi : i = i0 + 1) (hl : i < Q.length) : ordD (rd_L4 Q (i0 : Int)) (rd_L4 Q (i : Int)) desc ≤ 0 := by
  rw [keyL_rd, keyL_rd]
  rw [List.pairwise_iff_getElem] at h
  have := h i0 i (by omega) hl (by omega)
  have ei : keyL Q i0 = Q[i0] := by simp [keyL, List.getD_eq_getElem?_getD, List.getElem?_eq_getElem (show i0 < Q.length by omega)]
  have ej : keyL Q i = Q[i] := by simp [keyL, List.getD_eq_getElem?_getD, List.getElem?_eq_getElem hl]
  rw [ei, ej]
  exact this
/-- How many of the first j rows stand as r does. -/
def cnt (X : List (List S33)) (r : List S33) (j : Nat) : Nat := (X.take j).countP (fun a => decide (ordD a r [] = 0))
theorem cnt_le (X : List (List S33)) (r : List S33) (j : Nat) : cnt X r j ≤ j := by
  unfold cnt
  have := List.countP_le_length (p := fun a => decide (ordD a r [] = 0)) (l := X.take j)
  rw [List.length_take] at this
  omega
theorem cnt_zero (X : List (List S33)) (r : List S33) : cnt X r 0 = 0 := by simp [cnt]
theorem cnt_step {X : List (List S33)} {r a : List S33} {j : Nat} (hj : j < X.length) (ha : a = rd_L4 X (j : Int)) : cnt X r (j + 1) = cnt X r j + (if ordD a r [] = 0 then 1 else 0) := by
  unfold cnt
  rw [ha, keyL_rd]
  have e : keyL X j = X[j] := by simp [keyL, List.getD_eq_getElem?_getD, List.getElem?_eq_getElem hj]
  rw [e, List.take_add_one, List.getElem?_eq_getElem hj, List.countP_append]
  congr 1
  simp only [Option.toList_some, List.countP_singleton]
  by_cases c : ordD X[j] r [] = 0 <;> simp [c]
theorem cnt_all {X Y : List (List S33)} (h : X.Perm Y) (r : List S33) : cnt X r X.length = cnt Y r X.length := by
  unfold cnt
  rw [List.take_length, h.length_eq, List.take_length]
  exact h.countP_eq _
/-- Every place turned. -/
theorem ordD_turned : ∀ (n : Nat) (a b : List S33), a.length ≤ n → b.length ≤ n → ordD a b (List.replicate n true) = - ordD a b []
  | _, [], [], _, _ => by simp [ordD]
  | 0, _ :: _, _, h, _ => by simp at h
  | 0, _, _ :: _, _, h => by simp at h
  | n + 1, [], _ :: _, _, _ => by simp [ordD, sgD, List.replicate_succ]
  | n + 1, _ :: _, [], _, _ => by simp [ordD, sgD, List.replicate_succ]
  | n + 1, x :: a, y :: b, h1, h2 => by
    unfold ordD
    by_cases c : ordS x y = 0
    · rw [if_pos c, if_pos c]
      exact ordD_turned n a b (by simpa using h1) (by simpa using h2)
    · rw [if_neg c, if_neg c]
      simp [sgD, List.replicate_succ]
/-- R.Order's contract, of rows that are gone through. -/
theorem ROrder_calls {a b : List S33} (ha : gR a) (hb : gR b) {W : World} {b1 b2 : Nat} {ok1 ok2 : Nat → Prop} {A1 A2 : Option Addr} {c1 c2 : Nat} (h1 : Kd.V k33 33 W b1 ok1 (.slice A1 a.length c1) a) (h2 : Kd.V k33 33 W b2 ok2 (.slice A2 b.length c2) b) :
    Calls Try.prog 59 #[.slice A1 a.length c1, .slice A2 b.length c2, .slice none 0 0] W fun e w' => e = .returned (.int .i64 (ordD a b [])) ∧ Below W.heap.size W w' :=
  cordonref11_Order.calls (0 + 2400) A1 c1 a A2 c2 b none 0 [] _ W (Kd.V_reads' h1).2.2 (Kd.V_reads' h1).2.1 (Kd.V_reads' h2).2.2 (Kd.V_reads' h2).2.1 (Kd.V_reads' (Kd.V_nil Kd.bool 4 W 0 (fun _ => True))).2.2 (Nat.le_refl _) (rorder11 a b [] ha hb (by simp) 0)
/-- Block g holds these marks. -/
def HoldB (W : World) (g : Nat) (xs : List Bool) : Prop := W.heap[g]? = some (.cells (xs.map Value.bool).toArray 4 (0, 0))
theorem HoldB.cell {W : World} {g : Nat} {xs : List Bool} (h : HoldB W g xs) {i : Nat} {x : Bool} (hi : xs[i]? = some x) : W.cell? ⟨g, i, none⟩ = some (.bool x) := by
  rw [blk_cell h i]; simp [hi]
theorem HoldB.free {W : World} {g : Nat} {xs : List Bool} (h : HoldB W g xs) (i : Nat) : W.frozen? ⟨g, i, none⟩ = false := by
  simp [World.frozen?, show W.heap[g]? = _ from h]
theorem HoldB.set {W : World} {g : Nat} {xs : List Bool} (h : HoldB W g xs) (i : Nat) (x : Bool) : HoldB (W.setCell ⟨g, i, none⟩ (.bool x)) g (xs.set i x) := by
  have hlt := lt_of_block h
  have h' : W.heap[g] = .cells (xs.map Value.bool).toArray 4 (0, 0) := by simpa [Array.getElem?_eq_getElem hlt] using (show W.heap[g]? = _ from h)
  unfold HoldB
  show (W.heap.modify g _)[g]? = _
  rw [Array.getElem?_eq_getElem (by simpa using hlt), Array.getElem_modify_self, h']
  simp [List.map_set]
theorem HoldB.V {W : World} {g : Nat} {xs : List Bool} (h : HoldB W g xs) (hl : xs.length ≤ 1000) (n : Nat) (hn : n = xs.length) : Kd.V Kd.bool 4 W 0 (fun _ => True) (.slice (some ⟨g, 0, none⟩) n n) xs := by
  subst hn
  refine C_Vb ?_ (Nat.le_refl _)
  refine ⟨rfl, by omega, fun _ => ⟨⟨g, 0, none⟩, rfl, fun j p hj => ⟨[.bool p], rfl, rfl, fun i u hu => ?_⟩⟩⟩
  have hi : i = 0 := by
    rcases Nat.eq_zero_or_pos i with q | q
    · exact q
    · rw [List.getElem?_eq_none (by simp; omega)] at hu; cases hu
  subst hi
  simp at hu
  subst hu
  have := h.cell hj
  have e : (⟨g, 0, none⟩ : Addr).add (j * Kd.bool.sz + 0) = ⟨g, j, none⟩ := by
    rw [show j * Kd.bool.sz + 0 = j by show j * 1 + 0 = j; omega]
    unfold Addr.add
    split
    · next q => simp [q]
    · simp
  rw [e]
  exact this
theorem made_bools (n : Nat) : madeCells (Value.bool false).cells (n * 1) = ((List.replicate n false).map Value.bool).toArray := by
  rw [Nat.mul_one]
  apply Array.ext'
  simp [madeCells, Value.cells]
  apply List.ext_getElem
  · simp
  · intro i h1 h2
    simp [Nat.mod_one]
theorem make_bools (w : World) :
    Sem.run Try.prog (Instr.makeSlice 59 (.int .i64 40) (.int .i64 40)) w = Result.ok (.slice (some ⟨w.heap.size, 0, none⟩) 40 40) (w.alloc (.cells ((List.replicate 40 false).map Value.bool).toArray 4)) := by
  obtain ⟨i, hi, hz0, hz1, hz2⟩ := info_parts (show (Try.prog.info? 4).map (fun i => (i.zero, i.size, i.bytes)) = some (some (.bool false), 1, 1) from by kernel_rfl)
  have := run_make (P := Try.prog) w 59 4 i (.bool false) Try.underlying59 hi hz0 .i64 .i64 40 40 (by omega) (Int.le_refl _) (by rw [hz2]; omega) (by omega)
  rw [hz1] at this
  rw [show ((40 : Int).toNat) = 40 from rfl, made_bools] at this
  exact this
end Go.Proofs.Ythghflgmeepnlaa.Pa
end
section
namespace Go.Proofs.Ythghflgmeepnlaa.Pa
open Go.RowKit Go.Proofs.YthghflgmeepnlaaW.PrintWords Go.Proofs.YthghflgmeepnlaaW.PrintLast Go.Proofs.YthghflgmeepnlaaW.PrintMore
set_option linter.unusedVariables false
set_option linter.unusedSimpArgs false
end Go.Proofs.Ythghflgmeepnlaa.Pa
end
section
namespace Go.Proofs.Ythghflgmeepnlaa.Pa
open Go.RowKit Go.Proofs.YthghflgmeepnlaaW.PrintWords Go.Proofs.YthghflgmeepnlaaW.PrintLast Go.Proofs.YthghflgmeepnlaaW.PrintMore
set_option linter.unusedVariables false
set_option linter.unusedSimpArgs false
theorem row_at {w : World} {l0 : List (List S33)} {b c0 : Nat} {A0 : Option Addr} (hV : Kd.V (Kd.slice 33 k33) 22 w b (fun _ => True) (.slice A0 l0.length c0) l0) (i : Nat) (c2 : (i : Int) < (l0.length : Int)) :
    ∃ (ad : Addr) (A1 : Option Addr) (c1 : Nat), A0 = some ad ∧ w.cell? (ad.add i) = some (.slice A1 (rd_L4 l0 (i : Int)).length c1) ∧ Kd.V k33 33 w 0 (fun _ => True) (.slice A1 (rd_L4 l0 (i : Int)).length c1) (rd_L4 l0 (i : Int)) := by
  obtain ⟨ad, A1, c1, e1, hx1, hl1, hi1⟩ := at_L4 (Kd.V_reads' hV).2.2 (i : Int) (by omega) c2
  simp only [Int.toNat_natCast] at hx1
  exact ⟨ad, A1, c1, e1, hx1, Kd.V_mono (Kd.V_mk hl1 (Kd.C_F k33_heap hi1)) (fun _ _ => trivial)⟩
end Go.Proofs.Ythghflgmeepnlaa.Pa
namespace Go.Proofs.Ythghflgmeepnlaa.Pure
open Go.RowKit Go.Proofs.Ythghflgmeepnlaa.Pa
end Go.Proofs.Ythghflgmeepnlaa.Pure
end
section
namespace Go.Proofs.Ythghflgmeepnlaa.Pa
open Go.RowKit Go.Proofs.YthghflgmeepnlaaW.PrintWords Go.Proofs.YthghflgmeepnlaaW.PrintLast Go.Proofs.YthghflgmeepnlaaW.PrintMore
set_option linter.unusedVariables false
set_option linter.unusedSimpArgs false
theorem row_atn {w : World} {l : List (List S33)} {n b c0 : Nat} {A0 : Option Addr} (hn : n = l.length) (hV : Kd.V (Kd.slice 33 k33) 22 w b (fun _ => True) (.slice A0 n c0) l) (i : Nat) (c2 : (i : Int) < (n : Int)) :
    ∃ (ad : Addr) (A1 : Option Addr) (c1 : Nat), A0 = some ad ∧ w.cell? (ad.add i) = some (.slice A1 (rd_L4 l (i : Int)).length c1) ∧ Kd.V k33 33 w 0 (fun _ => True) (.slice A1 (rd_L4 l (i : Int)).length c1) (rd_L4 l (i : Int)) := by
  subst hn
  exact row_at hV i c2
theorem Same_n {l : List (List S33)} {n : Nat} (hn : n = l.length) (h : Fine l) {W : World} {b1 b2 : Nat} {ok1 ok2 : Nat → Prop} {A1 A2 : Option Addr} {c1 c2 : Nat} (h1 : Kd.V (Kd.slice 33 k33) 22 W b1 ok1 (.slice A1 n c1) l) (h2 : Kd.V (Kd.slice 33 k33) 22 W b2 ok2 (.slice A2 n c2) l) :
    Calls Try.prog 56 #[.slice A1 n c1, .slice A2 n c2] W fun e w' => e = .returned (.bool true) ∧ Below W.heap.size W w' := by
  subst hn
  exact Same_calls h h1 h2
theorem ROrder_on {a b : List S33} (ha : gR a) (hb : gR b) {w : World} {b1 b2 : Nat} {ok1 ok2 : Nat → Prop} {A1 A2 : Option Addr} {c1 c2 : Nat} (h1 : Kd.V k33 33 w b1 ok1 (.slice A1 a.length c1) a) (h2 : Kd.V k33 33 w b2 ok2 (.slice A2 b.length c2) b) {o : Int} (ho : o = ordD a b []) :
    ∀ W, Below w.heap.size w W → Calls Try.prog 59 #[.slice A1 a.length c1, .slice A2 b.length c2, .slice none 0 0] W fun e w' => e = .returned (.int .i64 o) ∧ Below W.heap.size W w' := by
  subst ho
  exact fun W hW => ROrder_calls ha hb (Kd.V_below h1 hW) (Kd.V_below h2 hW)
theorem refl_of {w : World} {α : Type} {d : Kd α} {e : Nat} {b : Nat} {ok : Nat → Prop} {v : Value} {xs : List α} (h : Kd.V d e w b ok v xs) : Below w.heap.size w w := Below.refl _ _
/-- rows.Sort of rows by themselves. -/
theorem Sort_n {l Q : List (List S33)} {desc : List Bool} {n nd : Nat} (hn : n = l.length) (hnd : nd = desc.length) (hq : n = Q.length) (g0 : gL l) (hd : desc.length ≤ maxLen) {Z : List Nat} (hQ : Q = Z.map (keyL l)) (hp : Z.Perm (List.range l.length)) (hs : Z.Pairwise (ltP (fun a b => ordD (keyL l a) (keyL l b) desc)))
    {A0 A1 A2 : Option Addr} {c0 c1 c2 : Nat} {W : World} {b0 b1 b2 : Nat} (h0 : Kd.V (Kd.slice 33 k33) 22 W b0 (fun _ => True) (.slice A0 n c0) l) (h1 : Kd.V (Kd.slice 33 k33) 22 W b1 (fun _ => True) (.slice A1 n c1) l) (h2 : Kd.V Kd.bool 4 W b2 (fun _ => True) (.slice A2 nd c2) desc) :
    Calls Try.prog 57 #[.slice A0 n c0, .slice A1 n c1, .slice A2 nd c2] W fun e w' => ∃ A c, e = .returned (.slice A n c) ∧ Kd.V (Kd.slice 33 k33) 22 w' 0 (fun _ => True) (.slice A n c) Q ∧ Below W.heap.size W w' := by
  subst hn
  subst hnd
  refine (Sort_gone g0 g0 hd hQ hp hs h0 h1 h2).mono ?_
  rintro e w' ⟨v, he, hv, hb⟩
  obtain ⟨A, c, rfl, _, _⟩ := id hv
  rw [← hq] at he hv
  exact ⟨A, c, he, hv, hb⟩
set_option maxHeartbeats 16000000 in
set_option maxRecDepth 1000000 in
theorem RowsOrder_n (n : Nat) (A0 : Option Addr) (c0 : Nat) (l0 : List (List S33)) (hn : n = l0.length) (w : World) (hr0 : Kd.C (Kd.slice 33 k33) w A0 l0.length l0) (hc0 : l0.length ≤ c0)
    (hp : ∃ k r, cordonlaw11_Few.f k [l0] = some r ∧ (r = true → ∀ l ∈ [l0], gL l)) :
    Calls Try.prog 14 #[.slice A0 n c0] w fun e w' => e = .returned (.bool true) ∧ Below w.heap.size w w' := by
  obtain ⟨k, r, hk, hg⟩ := hp
  have A := Aside0.mk (show Kd.V (Kd.slice 33 k33) 22 w 0 (fun _ => True) (.slice A0 n c0) l0 by rw [hn]; exact C_V hr0 hc0)
  have HB := Aside0.mk (Below.refl w.heap.size w)
  have HG := Aside0.mk hg
  have HN := Aside0.mk hn
  have hF := Few_calls hk (V_lit (Kd.slice 22 (Kd.slice 33 k33)) 58 (W := w) (xs := [l0]) (inner := [.slice A0 l0.length c0]) (Reps.one (Kd.FK_slice_mk hc0 (Kd.V_F (C_V hr0 hc0))) (Reps.none _ _)) (by simp))
  rw [← hn] at hF
  have HF := Aside0.mk hF
  clear hF
  clear hr0 hc0 hk hg hn
  go_enter Try.func14, Try.ntmps14
  go_wp2_with fail
  refine HF.out.mono ?_
  rintro e w0 ⟨rfl, hb0⟩
  have hb : Below w.heap.size w w0 := below_step (below_alloc (Below.refl w.heap.size w) _) hb0
  clear hb0 HF
  replace A := Aside0.mk (Kd.V_below A.out hb)
  replace HB := Aside0.mk (below_step HB.out hb)
  clear hb
  cases r with
  | false =>
    go_wp2_with fail
    refine (alive_calls _).mono ?_
    rintro e w1 ⟨rfl, hb⟩
    replace HB := Aside0.mk (below_step HB.out hb)
    clear hb
    go_wp2
    go_ret
    exact ⟨rfl, HB.out⟩
  | true =>
    have G0 := Aside0.mk (HG.out rfl l0 (by simp))
    obtain ⟨K, Z, zp, zs, ze⟩ := rsort_is l0 l0 [] G0.out.2 (by simp) G0.out.1
    obtain ⟨Q, hQ⟩ : ∃ Q, Q = Z.map (keyL l0) := ⟨_, rfl⟩
    have PQ := Aside0.mk (sorted_rows hQ zp zs)
    have HNQ := Aside0.mk (show n = Q.length by rw [PQ.out.1.length_eq]; exact HN.out)
    have GQ := Aside0.mk (show gL Q from ⟨by have := HNQ.out; have := HN.out; have := G0.out.1; omega, (keys_fine G0.out Z hQ zp).good⟩)
    have HQ := Aside0.mk (⟨hQ, zp, zs⟩ : Q = Z.map (keyL l0) ∧ Z.Perm (List.range l0.length) ∧ Z.Pairwise (ltP (fun a b => ordD (keyL l0 a) (keyL l0 b) [])))
    have H40 := Aside0.mk (show n ≤ 40 by have := HN.out; have := G0.out.1; omega)
    clear HG ze hQ zp zs
    go_wp2_with fail
    refine (Sort_n (desc := []) HN.out rfl HNQ.out G0.out (by simp) HQ.out.1 HQ.out.2.1 HQ.out.2.2 A.out A.out (Kd.V_nil _ _ _ 0 _)).mono ?_
    rintro e w1 ⟨AS, cS, rfl, ho, hb⟩
    replace A := Aside0.mk (Kd.V_below A.out hb)
    replace HB := Aside0.mk (below_step HB.out hb)
    have S := Aside0.mk ho
    clear ho hb HQ
    have hself : (n == n) = true := by simp
    go_wp2_with fail
    refine (Sort_n (desc := []) (l := Q) (Q := Q) (Z := List.range Q.length) HNQ.out rfl HNQ.out GQ.out (by simp) (range_keys Q).symm (List.Perm.refl _) (sorted_stays PQ.out.2) S.out S.out (Kd.V_nil _ _ _ 0 _)).mono ?_
    rintro e w2 ⟨AR, cR, rfl, ho, hb⟩
    replace A := Aside0.mk (Kd.V_below A.out hb)
    replace S := Aside0.mk (Kd.V_below S.out hb)
    replace HB := Aside0.mk (below_step HB.out hb)
    have R := Aside0.mk ho
    clear ho hb
    go_wp2_with fail
    refine (Same_n HNQ.out (gL_fine GQ.out) R.out S.out).mono ?_
    rintro e w3 ⟨rfl, hb⟩
    replace A := Aside0.mk (Kd.V_below A.out hb)
    replace S := Aside0.mk (Kd.V_below S.out hb)
    replace HB := Aside0.mk (below_step HB.out hb)
    clear hb R
    go_wp2_with fail
    go_loopg [35] n (fun kq v35 w' => ∃ (i : Nat), v35 = .int .i64 (i : Int) ∧ Aside0 (i + kq = n) ∧ Aside0 (Kd.V (Kd.slice 33 k33) 22 w' 0 (fun _ => True) (.slice A0 n c0) l0) ∧ Aside0 (Kd.V (Kd.slice 33 k33) 22 w' 0 (fun _ => True) (.slice AS n cS) Q) ∧ Aside0 (Below w.heap.size w w'))
    case atStart => exact ⟨0, rfl, ⟨by simp⟩, A, S, HB⟩
    case round =>
      clear A S HB
      obtain ⟨i, rfl, HI, A, S, HB⟩ := hrel
      by_cases c1 : (i : Int) < (n : Int)
      · have c1b : decide ((i : Int) < (n : Int)) = true := decide_eq_true c1
        have p0 : (0 : Int) ≤ i := by omega
        obtain ⟨k1, rfl⟩ : ∃ k1, gk = k1 + 1 := ⟨gk - 1, by have := HI.out; omega⟩
        have HW := Aside0.mk (show wrap64 ((i : Int) + 1) = ((i + 1 : Nat) : Int) from wrapN i (by have := H40.out; omega))
        have HI' := Aside0.mk (show i + 1 + k1 = n by have := HI.out; omega)
        have HIN := Aside0.mk (show i < n by omega)
        clear HI
        obtain ⟨adS, _, _, eS, -, -⟩ := row_atn HNQ.out S.out i c1
        subst eS
        obtain ⟨r, hr⟩ : ∃ r, r = rd_L4 Q (i : Int) := ⟨_, rfl⟩
        have HR := Aside0.mk hr
        have GR := Aside0.mk (show gR r by rw [hr]; exact GQ.out.2 _ (rd_in (by have := HNQ.out; omega)))
        clear hr
        by_cases cz : 0 < i
        · have z1 : decide ((i : Int) > 0) = true := decide_eq_true (by omega)
          have z2 : decide (0 < i) = true := decide_eq_true cz
          have z3 : (0 : Int) < (i : Int) := by omega
          obtain ⟨i0, hi0⟩ : ∃ i0, i = i0 + 1 := ⟨i - 1, by omega⟩
          have q1 : wrap64 ((i : Int) - 1) = (i0 : Int) := by have := H40.out; have := HIN.out; unfold wrap64; omega
          have q2 : IntKind.i64.wrap ((i : Int) - 1) = (i0 : Int) := by have := H40.out; have := HIN.out; clear q1; rw [IntKind.wrap_i64]; omega
          have q3 : (i0 : Int) < (n : Int) := by omega
          have q4 : (0 : Int) ≤ (i0 : Int) := by omega
          obtain ⟨rp, hrp⟩ : ∃ x, x = rd_L4 Q (i0 : Int) := ⟨_, rfl⟩
          have GP := Aside0.mk (show gR rp by rw [hrp]; exact GQ.out.2 _ (rd_in (by have := HNQ.out; omega)))
          obtain ⟨o1, ho1⟩ : ∃ o, o = ordD rp r [] := ⟨_, rfl⟩
          have hle : o1 ≤ 0 := by
            rw [ho1, hrp, HR.out]
            exact sorted_next PQ.out.2 i0 i hi0 (by have := HNQ.out; have := HIN.out; omega)
          have z5 : decide (o1 > 0) = false := decide_eq_false (by omega)
          have z6 : ¬ 0 < o1 := by omega
          obtain ⟨ad'', Aj, cj, e0, hx1, hv1⟩ := row_atn HNQ.out S.out i0 q3
          obtain ⟨ad', Ai, ci, e1, hx2, hv2⟩ := row_atn HNQ.out S.out i c1
          cases e0
          cases e1
          rw [← hrp] at hx1 hv1
          rw [← HR.out] at hx2 hv2
          have HO := Aside0.mk (ROrder_on GP.out GR.out hv1 hv2 ho1)
          have HB1 := Aside0.mk (refl_of S.out)
          clear hv1 hv2 ho1 hrp hle hi0 cz
          go_wp2_with fail
          go_region_held3 (fun w' => w'.cell? (adS.add i0) = some (.slice Aj rp.length cj) ∧ w'.cell? (adS.add i) = some (.slice Ai r.length ci))
            (first | go_keep | (refine ⟨?_, ?_⟩ <;> refine pw_cell_below hbl ?_ <;> first | assumption | (simp only [*]; done)))
            (first | (go_at_call 59; refine (HO.out _ (by first | exact HB1.out | exact below_drew1 HB1.out)).mono ?_; rintro e w_ ⟨rfl, hbl⟩; have n0_ := Aside0.mk (below_step (by first | exact HB1.out | exact below_drew1 HB1.out) hbl); clear HB1; have HB1 := n0_; clear n0_))
          go_wp2_with fail
          clear hx1 hx2 HO z1 z2 z3 z5 z6 q1 q2 q3 q4
          replace A := Aside0.mk (Kd.V_below A.out HB1.out)
          replace S := Aside0.mk (Kd.V_below S.out HB1.out)
          replace HB := Aside0.mk (below_step HB.out HB1.out)
          clear HB1
          go_loopg [5, 6, 55] n (fun kq v5 v6 v55 w' => ∃ (j x5 x6 : Nat), v5 = .int .i64 (x5 : Int) ∧ v6 = .int .i64 (x6 : Int) ∧ v55 = .int .i64 (j : Int) ∧ Aside0 (j + kq = n) ∧ Aside0 (x5 = cnt Q r j ∧ x6 = cnt l0 r j) ∧ Aside0 (Kd.V (Kd.slice 33 k33) 22 w' 0 (fun _ => True) (.slice A0 n c0) l0) ∧ Aside0 (Kd.V (Kd.slice 33 k33) 22 w' 0 (fun _ => True) (.slice (some adS) n cS) Q) ∧ Aside0 (Below w.heap.size w w'))
          case atStart => exact ⟨0, 0, 0, rfl, rfl, rfl, ⟨by simp⟩, ⟨by simp [cnt_zero]⟩, ⟨by first | exact A.out | exact Kd.V_drew A.out⟩, ⟨by first | exact S.out | exact Kd.V_drew S.out⟩, ⟨by first | exact HB.out | exact below_drew1 HB.out⟩⟩
          case round =>
            clear A S HB
            obtain ⟨j, x5, x6, rfl, rfl, rfl, HJ, HX, A, S, HB⟩ := hrel
            by_cases c2 : (j : Int) < (n : Int)
            · have c2b : decide ((j : Int) < (n : Int)) = true := decide_eq_true c2
              have p1 : (0 : Int) ≤ j := by omega
              obtain ⟨k2, rfl⟩ : ∃ k2, gk = k2 + 1 := ⟨gk - 1, by have := HJ.out; omega⟩
              have HWJ := Aside0.mk (show wrap64 ((j : Int) + 1) = ((j + 1 : Nat) : Int) from wrapN j (by have := H40.out; omega))
              have HJ' := Aside0.mk (show j + 1 + k2 = n by have := HJ.out; omega)
              have HJN := Aside0.mk (show j < n by omega)
              have B5 := Aside0.mk (⟨by have := cnt_le Q r j; have := HX.out; have := H40.out; omega, by have := cnt_le l0 r j; have := HX.out; have := H40.out; omega⟩ : x5 < 1000 ∧ x6 < 1000)
              obtain ⟨rj, hrj⟩ : ∃ x, x = rd_L4 Q (j : Int) := ⟨_, rfl⟩
              obtain ⟨lj, hlj⟩ : ∃ x, x = rd_L4 l0 (j : Int) := ⟨_, rfl⟩
              have GJ := Aside0.mk (show gR rj by rw [hrj]; exact GQ.out.2 _ (rd_in (by have := HNQ.out; omega)))
              have GL := Aside0.mk (show gR lj by rw [hlj]; exact G0.out.2 _ (rd_in (by have := HN.out; omega)))
              obtain ⟨o1, ho1⟩ : ∃ o, o = ordD rj r [] := ⟨_, rfl⟩
              obtain ⟨o2, ho2⟩ : ∃ o, o = ordD lj r [] := ⟨_, rfl⟩
              have C5 := Aside0.mk (show cnt Q r (j + 1) = cnt Q r j + (if o1 = 0 then 1 else 0) by rw [ho1]; exact cnt_step (by have := HNQ.out; omega) hrj)
              have C6 := Aside0.mk (show cnt l0 r (j + 1) = cnt l0 r j + (if o2 = 0 then 1 else 0) by rw [ho2]; exact cnt_step (by have := HN.out; omega) hlj)
              have W5 := Aside0.mk (show wrap64 ((x5 : Int) + 1) = ((x5 + 1 : Nat) : Int) from wrapN x5 (by have := B5.out.1; omega))
              have W6 := Aside0.mk (show wrap64 ((x6 : Int) + 1) = ((x6 + 1 : Nat) : Int) from wrapN x6 (by have := B5.out.2; omega))
              obtain ⟨ad'', Aj, cj, e0, hx1, hv1⟩ := row_atn HNQ.out S.out j c2
              obtain ⟨ad', Ai, ci, e1, hx2, hv2⟩ := row_atn HNQ.out S.out i c1
              cases e0
              cases e1
              rw [← hrj] at hx1 hv1
              rw [← HR.out] at hx2 hv2
              have HO := Aside0.mk (ROrder_on GJ.out GR.out hv1 hv2 ho1)
              have HB1 := Aside0.mk (Below.refl wr.heap.size wr)
              have HO1 := Aside0.mk ho1
              have HO2 := Aside0.mk ho2
              have HRJ := Aside0.mk (⟨hrj, hlj⟩ : rj = rd_L4 Q (j : Int) ∧ lj = rd_L4 l0 (j : Int))
              clear hv1 ho1 ho2 hrj hlj HJ
              by_cases d1 : o1 = 0
              · have d1b : (o1 == 0) = true := by rw [d1]; rfl
                have C5b := Aside0.mk (show cnt Q r (j + 1) = x5 + 1 by have h := C5.out; rw [if_pos d1] at h; have := HX.out.1; omega)
                go_wp2_with fail
                go_region_held3 (fun w' => w'.cell? (adS.add j) = some (.slice Aj rj.length cj) ∧ w'.cell? (adS.add i) = some (.slice Ai r.length ci))
                  (first | go_keep | (refine ⟨?_, ?_⟩ <;> refine pw_cell_below hbl ?_ <;> first | assumption | (simp only [*]; done)))
                  (first | (go_at_call 59; refine (HO.out _ (by first | exact HB1.out | exact below_drew1 HB1.out)).mono ?_; rintro e w_ ⟨rfl, hbl⟩; have n0_ := Aside0.mk (below_step (by first | exact HB1.out | exact below_drew1 HB1.out) hbl); clear HB1; have HB1 := n0_; clear n0_))
                go_wp2_with fail
                clear hx1 HO
                replace hx2 := pw_cell_below HB1.out hx2
                replace hv2 := Kd.V_below hv2 HB1.out
                replace A := Aside0.mk (Kd.V_below A.out HB1.out)
                replace S := Aside0.mk (Kd.V_below S.out HB1.out)
                replace HB := Aside0.mk (below_step HB.out HB1.out)
                clear HB1 d1 d1b
                obtain ⟨adl, Al, cl, e0, hx1, hv1⟩ := row_atn HN.out A.out j c2
                subst e0
                rw [← HRJ.out.2] at hx1 hv1
                have HO := Aside0.mk (ROrder_on GL.out GR.out hv1 hv2 HO2.out)
                have HB1 := Aside0.mk (refl_of S.out)
                clear hv1 hv2
                by_cases d2 : o2 = 0
                · have d2b : (o2 == 0) = true := by rw [d2]; rfl
                  have C6b := Aside0.mk (show cnt l0 r (j + 1) = x6 + 1 by have h := C6.out; rw [if_pos d2] at h; have := HX.out.2; omega)
                  go_region_held3 (fun w' => w'.cell? (adl.add j) = some (.slice Al lj.length cl) ∧ w'.cell? (adS.add i) = some (.slice Ai r.length ci))
                    (first | go_keep | (refine ⟨?_, ?_⟩ <;> refine pw_cell_below hbl ?_ <;> first | assumption | (simp only [*]; done)))
                    (first | (go_at_call 59; refine (HO.out _ (by first | exact HB1.out | exact below_drew1 HB1.out)).mono ?_; rintro e w_ ⟨rfl, hbl⟩; have n0_ := Aside0.mk (below_step (by first | exact HB1.out | exact below_drew1 HB1.out) hbl); clear HB1; have HB1 := n0_; clear n0_))
                  go_wp2_with fail
                  clear hx1 hx2 HO
                  replace A := Aside0.mk (Kd.V_below A.out HB1.out)
                  replace S := Aside0.mk (Kd.V_below S.out HB1.out)
                  replace HB := Aside0.mk (below_step HB.out HB1.out)
                  go_roundg k2
                  case measure => omega
                  case rel => exact ⟨j + 1, x5 + 1, x6 + 1, by first | rfl | rw [W5.out], by first | rfl | rw [W6.out], by rw [HWJ.out], HJ', ⟨C5b.out.symm, C6b.out.symm⟩, A, S, HB⟩
                · have d2b : (o2 == 0) = false := beq_eq_false_iff_ne.mpr d2
                  have C6b := Aside0.mk (show cnt l0 r (j + 1) = x6 by have h := C6.out; rw [if_neg d2] at h; have := HX.out.2; omega)
                  go_region_held3 (fun w' => w'.cell? (adl.add j) = some (.slice Al lj.length cl) ∧ w'.cell? (adS.add i) = some (.slice Ai r.length ci))
                    (first | go_keep | (refine ⟨?_, ?_⟩ <;> refine pw_cell_below hbl ?_ <;> first | assumption | (simp only [*]; done)))
                    (first | (go_at_call 59; refine (HO.out _ (by first | exact HB1.out | exact below_drew1 HB1.out)).mono ?_; rintro e w_ ⟨rfl, hbl⟩; have n0_ := Aside0.mk (below_step (by first | exact HB1.out | exact below_drew1 HB1.out) hbl); clear HB1; have HB1 := n0_; clear n0_))
                  go_wp2_with fail
                  clear hx1 hx2 HO
                  replace A := Aside0.mk (Kd.V_below A.out HB1.out)
                  replace S := Aside0.mk (Kd.V_below S.out HB1.out)
                  replace HB := Aside0.mk (below_step HB.out HB1.out)
                  go_roundg k2
                  case measure => omega
                  case rel => exact ⟨j + 1, x5 + 1, x6, by first | rfl | rw [W5.out], by first | rfl | rw [W6.out], by rw [HWJ.out], HJ', ⟨C5b.out.symm, C6b.out.symm⟩, A, S, HB⟩
              · have d1b : (o1 == 0) = false := beq_eq_false_iff_ne.mpr d1
                have C5b := Aside0.mk (show cnt Q r (j + 1) = x5 by have h := C5.out; rw [if_neg d1] at h; have := HX.out.1; omega)
                go_wp2_with fail
                go_region_held3 (fun w' => w'.cell? (adS.add j) = some (.slice Aj rj.length cj) ∧ w'.cell? (adS.add i) = some (.slice Ai r.length ci))
                  (first | go_keep | (refine ⟨?_, ?_⟩ <;> refine pw_cell_below hbl ?_ <;> first | assumption | (simp only [*]; done)))
                  (first | (go_at_call 59; refine (HO.out _ (by first | exact HB1.out | exact below_drew1 HB1.out)).mono ?_; rintro e w_ ⟨rfl, hbl⟩; have n0_ := Aside0.mk (below_step (by first | exact HB1.out | exact below_drew1 HB1.out) hbl); clear HB1; have HB1 := n0_; clear n0_))
                go_wp2_with fail
                clear hx1 HO
                replace hx2 := pw_cell_below HB1.out hx2
                replace hv2 := Kd.V_below hv2 HB1.out
                replace A := Aside0.mk (Kd.V_below A.out HB1.out)
                replace S := Aside0.mk (Kd.V_below S.out HB1.out)
                replace HB := Aside0.mk (below_step HB.out HB1.out)
                clear HB1 d1 d1b
                obtain ⟨adl, Al, cl, e0, hx1, hv1⟩ := row_atn HN.out A.out j c2
                subst e0
                rw [← HRJ.out.2] at hx1 hv1
                have HO := Aside0.mk (ROrder_on GL.out GR.out hv1 hv2 HO2.out)
                have HB1 := Aside0.mk (refl_of S.out)
                clear hv1 hv2
                by_cases d2 : o2 = 0
                · have d2b : (o2 == 0) = true := by rw [d2]; rfl
                  have C6b := Aside0.mk (show cnt l0 r (j + 1) = x6 + 1 by have h := C6.out; rw [if_pos d2] at h; have := HX.out.2; omega)
                  go_region_held3 (fun w' => w'.cell? (adl.add j) = some (.slice Al lj.length cl) ∧ w'.cell? (adS.add i) = some (.slice Ai r.length ci))
                    (first | go_keep | (refine ⟨?_, ?_⟩ <;> refine pw_cell_below hbl ?_ <;> first | assumption | (simp only [*]; done)))
                    (first | (go_at_call 59; refine (HO.out _ (by first | exact HB1.out | exact below_drew1 HB1.out)).mono ?_; rintro e w_ ⟨rfl, hbl⟩; have n0_ := Aside0.mk (below_step (by first | exact HB1.out | exact below_drew1 HB1.out) hbl); clear HB1; have HB1 := n0_; clear n0_))
                  go_wp2_with fail
                  clear hx1 hx2 HO
                  replace A := Aside0.mk (Kd.V_below A.out HB1.out)
                  replace S := Aside0.mk (Kd.V_below S.out HB1.out)
                  replace HB := Aside0.mk (below_step HB.out HB1.out)
                  go_roundg k2
                  case measure => omega
                  case rel => exact ⟨j + 1, x5, x6 + 1, by first | rfl | rw [W5.out], by first | rfl | rw [W6.out], by rw [HWJ.out], HJ', ⟨C5b.out.symm, C6b.out.symm⟩, A, S, HB⟩
                · have d2b : (o2 == 0) = false := beq_eq_false_iff_ne.mpr d2
                  have C6b := Aside0.mk (show cnt l0 r (j + 1) = x6 by have h := C6.out; rw [if_neg d2] at h; have := HX.out.2; omega)
                  go_region_held3 (fun w' => w'.cell? (adl.add j) = some (.slice Al lj.length cl) ∧ w'.cell? (adS.add i) = some (.slice Ai r.length ci))
                    (first | go_keep | (refine ⟨?_, ?_⟩ <;> refine pw_cell_below hbl ?_ <;> first | assumption | (simp only [*]; done)))
                    (first | (go_at_call 59; refine (HO.out _ (by first | exact HB1.out | exact below_drew1 HB1.out)).mono ?_; rintro e w_ ⟨rfl, hbl⟩; have n0_ := Aside0.mk (below_step (by first | exact HB1.out | exact below_drew1 HB1.out) hbl); clear HB1; have HB1 := n0_; clear n0_))
                  go_wp2_with fail
                  clear hx1 hx2 HO
                  replace A := Aside0.mk (Kd.V_below A.out HB1.out)
                  replace S := Aside0.mk (Kd.V_below S.out HB1.out)
                  replace HB := Aside0.mk (below_step HB.out HB1.out)
                  go_roundg k2
                  case measure => omega
                  case rel => exact ⟨j + 1, x5, x6, by first | rfl | rw [W5.out], by first | rfl | rw [W6.out], by rw [HWJ.out], HJ', ⟨C5b.out.symm, C6b.out.symm⟩, A, S, HB⟩
            · have c2b : decide ((j : Int) < (n : Int)) = false := decide_eq_false c2
              have ex : x5 = x6 := by
                have hj : j = n := by have := HJ.out; omega
                have h := HX.out
                have h2 := cnt_all PQ.out.1 r
                rw [← HNQ.out, ← hj] at h2
                omega
              subst ex
              go_wp2_with fail
              go_roundg k1
              case measure => omega
              case rel => exact ⟨i + 1, by rw [HW.out], HI', A, S, HB⟩
        · have z1 : decide ((i : Int) > 0) = false := decide_eq_false (by omega)
          have z2 : decide (0 < i) = false := decide_eq_false cz
          clear cz
          go_wp2_with fail
          go_quiet (fail)
          have A1 := Aside0.mk (Kd.V_drewN A.out nq)
          have S1 := Aside0.mk (Kd.V_drewN S.out nq)
          have HB1 := Aside0.mk (pw_below_drewN HB.out nq)
          clear A S HB z1 z2
          generalize wr.drewN nq = W1 at A1 S1 HB1 ⊢
          have A := A1
          have S := S1
          have HB := HB1
          clear A1 S1 HB1
          go_wp2_with fail
          go_loopg [5, 6, 55] n (fun kq v5 v6 v55 w' => ∃ (j x5 x6 : Nat), v5 = .int .i64 (x5 : Int) ∧ v6 = .int .i64 (x6 : Int) ∧ v55 = .int .i64 (j : Int) ∧ Aside0 (j + kq = n) ∧ Aside0 (x5 = cnt Q r j ∧ x6 = cnt l0 r j) ∧ Aside0 (Kd.V (Kd.slice 33 k33) 22 w' 0 (fun _ => True) (.slice A0 n c0) l0) ∧ Aside0 (Kd.V (Kd.slice 33 k33) 22 w' 0 (fun _ => True) (.slice (some adS) n cS) Q) ∧ Aside0 (Below w.heap.size w w'))
          case atStart => exact ⟨0, 0, 0, rfl, rfl, rfl, ⟨by simp⟩, ⟨by simp [cnt_zero]⟩, ⟨by first | exact A.out | exact Kd.V_drew A.out⟩, ⟨by first | exact S.out | exact Kd.V_drew S.out⟩, ⟨by first | exact HB.out | exact below_drew1 HB.out⟩⟩
          case round =>
            clear A S HB
            obtain ⟨j, x5, x6, rfl, rfl, rfl, HJ, HX, A, S, HB⟩ := hrel
            by_cases c2 : (j : Int) < (n : Int)
            · have c2b : decide ((j : Int) < (n : Int)) = true := decide_eq_true c2
              have p1 : (0 : Int) ≤ j := by omega
              obtain ⟨k2, rfl⟩ : ∃ k2, gk = k2 + 1 := ⟨gk - 1, by have := HJ.out; omega⟩
              have HWJ := Aside0.mk (show wrap64 ((j : Int) + 1) = ((j + 1 : Nat) : Int) from wrapN j (by have := H40.out; omega))
              have HJ' := Aside0.mk (show j + 1 + k2 = n by have := HJ.out; omega)
              have HJN := Aside0.mk (show j < n by omega)
              have B5 := Aside0.mk (⟨by have := cnt_le Q r j; have := HX.out; have := H40.out; omega, by have := cnt_le l0 r j; have := HX.out; have := H40.out; omega⟩ : x5 < 1000 ∧ x6 < 1000)
              obtain ⟨rj, hrj⟩ : ∃ x, x = rd_L4 Q (j : Int) := ⟨_, rfl⟩
              obtain ⟨lj, hlj⟩ : ∃ x, x = rd_L4 l0 (j : Int) := ⟨_, rfl⟩
              have GJ := Aside0.mk (show gR rj by rw [hrj]; exact GQ.out.2 _ (rd_in (by have := HNQ.out; omega)))
              have GL := Aside0.mk (show gR lj by rw [hlj]; exact G0.out.2 _ (rd_in (by have := HN.out; omega)))
              obtain ⟨o1, ho1⟩ : ∃ o, o = ordD rj r [] := ⟨_, rfl⟩
              obtain ⟨o2, ho2⟩ : ∃ o, o = ordD lj r [] := ⟨_, rfl⟩
              have C5 := Aside0.mk (show cnt Q r (j + 1) = cnt Q r j + (if o1 = 0 then 1 else 0) by rw [ho1]; exact cnt_step (by have := HNQ.out; omega) hrj)
              have C6 := Aside0.mk (show cnt l0 r (j + 1) = cnt l0 r j + (if o2 = 0 then 1 else 0) by rw [ho2]; exact cnt_step (by have := HN.out; omega) hlj)
              have W5 := Aside0.mk (show wrap64 ((x5 : Int) + 1) = ((x5 + 1 : Nat) : Int) from wrapN x5 (by have := B5.out.1; omega))
              have W6 := Aside0.mk (show wrap64 ((x6 : Int) + 1) = ((x6 + 1 : Nat) : Int) from wrapN x6 (by have := B5.out.2; omega))
              obtain ⟨ad'', Aj, cj, e0, hx1, hv1⟩ := row_atn HNQ.out S.out j c2
              obtain ⟨ad', Ai, ci, e1, hx2, hv2⟩ := row_atn HNQ.out S.out i c1
              cases e0
              cases e1
              rw [← hrj] at hx1 hv1
              rw [← HR.out] at hx2 hv2
              have HO := Aside0.mk (ROrder_on GJ.out GR.out hv1 hv2 ho1)
              have HB1 := Aside0.mk (Below.refl wr.heap.size wr)
              have HO1 := Aside0.mk ho1
              have HO2 := Aside0.mk ho2
              have HRJ := Aside0.mk (⟨hrj, hlj⟩ : rj = rd_L4 Q (j : Int) ∧ lj = rd_L4 l0 (j : Int))
              clear hv1 ho1 ho2 hrj hlj HJ
              by_cases d1 : o1 = 0
              · have d1b : (o1 == 0) = true := by rw [d1]; rfl
                have C5b := Aside0.mk (show cnt Q r (j + 1) = x5 + 1 by have h := C5.out; rw [if_pos d1] at h; have := HX.out.1; omega)
                go_wp2_with fail
                go_region_held3 (fun w' => w'.cell? (adS.add j) = some (.slice Aj rj.length cj) ∧ w'.cell? (adS.add i) = some (.slice Ai r.length ci))
                  (first | go_keep | (refine ⟨?_, ?_⟩ <;> refine pw_cell_below hbl ?_ <;> first | assumption | (simp only [*]; done)))
                  (first | (go_at_call 59; refine (HO.out _ (by first | exact HB1.out | exact below_drew1 HB1.out)).mono ?_; rintro e w_ ⟨rfl, hbl⟩; have n0_ := Aside0.mk (below_step (by first | exact HB1.out | exact below_drew1 HB1.out) hbl); clear HB1; have HB1 := n0_; clear n0_))
                go_wp2_with fail
                clear hx1 HO
                replace hx2 := pw_cell_below HB1.out hx2
                replace hv2 := Kd.V_below hv2 HB1.out
                replace A := Aside0.mk (Kd.V_below A.out HB1.out)
                replace S := Aside0.mk (Kd.V_below S.out HB1.out)
                replace HB := Aside0.mk (below_step HB.out HB1.out)
                clear HB1 d1 d1b
                obtain ⟨adl, Al, cl, e0, hx1, hv1⟩ := row_atn HN.out A.out j c2
                subst e0
                rw [← HRJ.out.2] at hx1 hv1
                have HO := Aside0.mk (ROrder_on GL.out GR.out hv1 hv2 HO2.out)
                have HB1 := Aside0.mk (refl_of S.out)
                clear hv1 hv2
                by_cases d2 : o2 = 0
                · have d2b : (o2 == 0) = true := by rw [d2]; rfl
                  have C6b := Aside0.mk (show cnt l0 r (j + 1) = x6 + 1 by have h := C6.out; rw [if_pos d2] at h; have := HX.out.2; omega)
                  go_region_held3 (fun w' => w'.cell? (adl.add j) = some (.slice Al lj.length cl) ∧ w'.cell? (adS.add i) = some (.slice Ai r.length ci))
                    (first | go_keep | (refine ⟨?_, ?_⟩ <;> refine pw_cell_below hbl ?_ <;> first | assumption | (simp only [*]; done)))
                    (first | (go_at_call 59; refine (HO.out _ (by first | exact HB1.out | exact below_drew1 HB1.out)).mono ?_; rintro e w_ ⟨rfl, hbl⟩; have n0_ := Aside0.mk (below_step (by first | exact HB1.out | exact below_drew1 HB1.out) hbl); clear HB1; have HB1 := n0_; clear n0_))
                  go_wp2_with fail
                  clear hx1 hx2 HO
                  replace A := Aside0.mk (Kd.V_below A.out HB1.out)
                  replace S := Aside0.mk (Kd.V_below S.out HB1.out)
                  replace HB := Aside0.mk (below_step HB.out HB1.out)
                  go_roundg k2
                  case measure => omega
                  case rel => exact ⟨j + 1, x5 + 1, x6 + 1, by first | rfl | rw [W5.out], by first | rfl | rw [W6.out], by rw [HWJ.out], HJ', ⟨C5b.out.symm, C6b.out.symm⟩, A, S, HB⟩
                · have d2b : (o2 == 0) = false := beq_eq_false_iff_ne.mpr d2
                  have C6b := Aside0.mk (show cnt l0 r (j + 1) = x6 by have h := C6.out; rw [if_neg d2] at h; have := HX.out.2; omega)
                  go_region_held3 (fun w' => w'.cell? (adl.add j) = some (.slice Al lj.length cl) ∧ w'.cell? (adS.add i) = some (.slice Ai r.length ci))
                    (first | go_keep | (refine ⟨?_, ?_⟩ <;> refine pw_cell_below hbl ?_ <;> first | assumption | (simp only [*]; done)))
                    (first | (go_at_call 59; refine (HO.out _ (by first | exact HB1.out | exact below_drew1 HB1.out)).mono ?_; rintro e w_ ⟨rfl, hbl⟩; have n0_ := Aside0.mk (below_step (by first | exact HB1.out | exact below_drew1 HB1.out) hbl); clear HB1; have HB1 := n0_; clear n0_))
                  go_wp2_with fail
                  clear hx1 hx2 HO
                  replace A := Aside0.mk (Kd.V_below A.out HB1.out)
                  replace S := Aside0.mk (Kd.V_below S.out HB1.out)
                  replace HB := Aside0.mk (below_step HB.out HB1.out)
                  go_roundg k2
                  case measure => omega
                  case rel => exact ⟨j + 1, x5 + 1, x6, by first | rfl | rw [W5.out], by first | rfl | rw [W6.out], by rw [HWJ.out], HJ', ⟨C5b.out.symm, C6b.out.symm⟩, A, S, HB⟩
              · have d1b : (o1 == 0) = false := beq_eq_false_iff_ne.mpr d1
                have C5b := Aside0.mk (show cnt Q r (j + 1) = x5 by have h := C5.out; rw [if_neg d1] at h; have := HX.out.1; omega)
                go_wp2_with fail
                go_region_held3 (fun w' => w'.cell? (adS.add j) = some (.slice Aj rj.length cj) ∧ w'.cell? (adS.add i) = some (.slice Ai r.length ci))
                  (first | go_keep | (refine ⟨?_, ?_⟩ <;> refine pw_cell_below hbl ?_ <;> first | assumption | (simp only [*]; done)))
                  (first | (go_at_call 59; refine (HO.out _ (by first | exact HB1.out | exact below_drew1 HB1.out)).mono ?_; rintro e w_ ⟨rfl, hbl⟩; have n0_ := Aside0.mk (below_step (by first | exact HB1.out | exact below_drew1 HB1.out) hbl); clear HB1; have HB1 := n0_; clear n0_))
                go_wp2_with fail
                clear hx1 HO
                replace hx2 := pw_cell_below HB1.out hx2
                replace hv2 := Kd.V_below hv2 HB1.out
                replace A := Aside0.mk (Kd.V_below A.out HB1.out)
                replace S := Aside0.mk (Kd.V_below S.out HB1.out)
                replace HB := Aside0.mk (below_step HB.out HB1.out)
                clear HB1 d1 d1b
                obtain ⟨adl, Al, cl, e0, hx1, hv1⟩ := row_atn HN.out A.out j c2
                subst e0
                rw [← HRJ.out.2] at hx1 hv1
                have HO := Aside0.mk (ROrder_on GL.out GR.out hv1 hv2 HO2.out)
                have HB1 := Aside0.mk (refl_of S.out)
                clear hv1 hv2
                by_cases d2 : o2 = 0
                · have d2b : (o2 == 0) = true := by rw [d2]; rfl
                  have C6b := Aside0.mk (show cnt l0 r (j + 1) = x6 + 1 by have h := C6.out; rw [if_pos d2] at h; have := HX.out.2; omega)
                  go_region_held3 (fun w' => w'.cell? (adl.add j) = some (.slice Al lj.length cl) ∧ w'.cell? (adS.add i) = some (.slice Ai r.length ci))
                    (first | go_keep | (refine ⟨?_, ?_⟩ <;> refine pw_cell_below hbl ?_ <;> first | assumption | (simp only [*]; done)))
                    (first | (go_at_call 59; refine (HO.out _ (by first | exact HB1.out | exact below_drew1 HB1.out)).mono ?_; rintro e w_ ⟨rfl, hbl⟩; have n0_ := Aside0.mk (below_step (by first | exact HB1.out | exact below_drew1 HB1.out) hbl); clear HB1; have HB1 := n0_; clear n0_))
                  go_wp2_with fail
                  clear hx1 hx2 HO
                  replace A := Aside0.mk (Kd.V_below A.out HB1.out)
                  replace S := Aside0.mk (Kd.V_below S.out HB1.out)
                  replace HB := Aside0.mk (below_step HB.out HB1.out)
                  go_roundg k2
                  case measure => omega
                  case rel => exact ⟨j + 1, x5, x6 + 1, by first | rfl | rw [W5.out], by first | rfl | rw [W6.out], by rw [HWJ.out], HJ', ⟨C5b.out.symm, C6b.out.symm⟩, A, S, HB⟩
                · have d2b : (o2 == 0) = false := beq_eq_false_iff_ne.mpr d2
                  have C6b := Aside0.mk (show cnt l0 r (j + 1) = x6 by have h := C6.out; rw [if_neg d2] at h; have := HX.out.2; omega)
                  go_region_held3 (fun w' => w'.cell? (adl.add j) = some (.slice Al lj.length cl) ∧ w'.cell? (adS.add i) = some (.slice Ai r.length ci))
                    (first | go_keep | (refine ⟨?_, ?_⟩ <;> refine pw_cell_below hbl ?_ <;> first | assumption | (simp only [*]; done)))
                    (first | (go_at_call 59; refine (HO.out _ (by first | exact HB1.out | exact below_drew1 HB1.out)).mono ?_; rintro e w_ ⟨rfl, hbl⟩; have n0_ := Aside0.mk (below_step (by first | exact HB1.out | exact below_drew1 HB1.out) hbl); clear HB1; have HB1 := n0_; clear n0_))
                  go_wp2_with fail
                  clear hx1 hx2 HO
                  replace A := Aside0.mk (Kd.V_below A.out HB1.out)
                  replace S := Aside0.mk (Kd.V_below S.out HB1.out)
                  replace HB := Aside0.mk (below_step HB.out HB1.out)
                  go_roundg k2
                  case measure => omega
                  case rel => exact ⟨j + 1, x5, x6, by first | rfl | rw [W5.out], by first | rfl | rw [W6.out], by rw [HWJ.out], HJ', ⟨C5b.out.symm, C6b.out.symm⟩, A, S, HB⟩
            · have c2b : decide ((j : Int) < (n : Int)) = false := decide_eq_false c2
              have ex : x5 = x6 := by
                have hj : j = n := by have := HJ.out; omega
                have h := HX.out
                have h2 := cnt_all PQ.out.1 r
                rw [← HNQ.out, ← hj] at h2
                omega
              subst ex
              go_wp2_with fail
              go_roundg k1
              case measure => omega
              case rel => exact ⟨i + 1, by rw [HW.out], HI', A, S, HB⟩
      · have c1b : decide ((i : Int) < (n : Int)) = false := decide_eq_false c1
        have h40 : (List.replicate 40 true).length ≤ maxLen := by decide
        obtain ⟨K2, Z2, zp2, zs2, ze2⟩ := rsort_is l0 l0 (List.replicate 40 true) G0.out.2 h40 G0.out.1
        obtain ⟨T, hT⟩ : ∃ T, T = Z2.map (keyL l0) := ⟨_, rfl⟩
        have PT := Aside0.mk (sorted_rows hT zp2 zs2)
        have HNT := Aside0.mk (show n = T.length by rw [PT.out.1.length_eq]; exact HN.out)
        have GT := Aside0.mk (show gL T from ⟨by have := HNT.out; have := HN.out; have := G0.out.1; omega, (keys_fine G0.out Z2 hT zp2).good⟩)
        have HT := Aside0.mk (⟨hT, zp2, zs2, h40⟩ : T = Z2.map (keyL l0) ∧ Z2.Perm (List.range l0.length) ∧ Z2.Pairwise (ltP (fun a b => ordD (keyL l0 a) (keyL l0 b) (List.replicate 40 true))) ∧ (List.replicate 40 true).length ≤ maxLen)
        clear ze2 hT zp2 zs2 h40 HI S
        obtain ⟨o40, ho40⟩ : ∃ o : Obj, o = .cells ((List.replicate 40 false).map Value.bool).toArray 4 := ⟨_, rfl⟩
        have hmk := make_bools
        rw [← ho40] at hmk
        have HO40 := Aside0.mk ho40
        clear ho40
        obtain ⟨wq, rfl⟩ : ∃ wq, wr = wq := ⟨_, rfl⟩
        go_wp2_with fail
        have HH0 := Aside0.mk (show HoldB (wr.alloc o40) wr.heap.size (List.replicate 0 true ++ List.replicate (40 - 0) false) by
          show (wr.alloc o40).heap[wr.heap.size]? = _
          rw [heap_alloc_new, HO40.out]; rfl)
        have HQ0 := Aside0.mk (below_alloc (Below.refl wr.heap.size wr) o40)
        obtain ⟨g, hg⟩ : ∃ g, g = wr.heap.size := ⟨_, rfl⟩
        rw [← hg] at HH0 ⊢
        have HGE := Aside0.mk hg
        clear hg hmk HO40
        obtain ⟨wq, rfl⟩ : ∃ wq, wq = wr := ⟨_, rfl⟩
        go_loopg [90] 40 (fun kq v90 w' => ∃ (i : Nat), v90 = .int .i64 (i : Int) ∧ Aside0 (i + kq = 40) ∧ Aside0 (HoldB w' g (List.replicate i true ++ List.replicate (40 - i) false)) ∧ Aside0 (Below wq.heap.size wq w'))
        case atStart => exact ⟨0, rfl, ⟨by simp⟩, HH0, HQ0⟩
        case round =>
          clear HH0 HQ0
          obtain ⟨i, rfl, HI, HH, HQ⟩ := hrel
          by_cases c2 : (i : Int) < 40
          · have c2b : decide ((i : Int) < 40) = true := decide_eq_true c2
            obtain ⟨k1, rfl⟩ : ∃ k1, gk = k1 + 1 := ⟨gk - 1, by have := HI.out; omega⟩
            have p0 : (0 : Int) ≤ i := by omega
            have HW := Aside0.mk (show wrap64 ((i : Int) + 1) = ((i + 1 : Nat) : Int) from wrapN i (by omega))
            have hx : (List.replicate i true ++ List.replicate (40 - i) false)[i]? = some false := by
              rw [List.getElem?_append_right (by simp), List.length_replicate, Nat.sub_self, List.getElem?_replicate, if_pos (by omega)]
            have hc1 := HH.out.cell hx
            have hf1 := HH.out.free i
            clear hx
            have HN2 := Aside0.mk (show HoldB (wr.setCell ⟨g, i, none⟩ (.bool true)) g (List.replicate (i + 1) true ++ List.replicate (40 - (i + 1)) false) by
              have h1 := HH.out.set i true
              rwa [List.set_append_right _ _ (by simp), List.length_replicate, Nat.sub_self, show 40 - i = (40 - (i + 1)) + 1 by omega, List.replicate_succ, List.set_cons_zero, List.append_cons, ← List.replicate_succ'] at h1)
            have HQ2 := Aside0.mk (pw_below_grown HQ.out _ HQ.out.size (show wr.grownBy (wr.setCell ⟨g, i, none⟩ (.bool true)) (some g) from gr_set ⟨rfl, rfl, rfl, Nat.le_refl _, fun _ _ _ => rfl⟩ _) (fun k hk => by injection hk with hk; have := HGE.out; omega))
            go_wp2
            go_roundg k1
            case measure => omega
            case rel => exact ⟨i + 1, by first | rw [HW.out] | rfl | go_num, ⟨by have := HI.out; omega⟩, HN2, HQ2⟩
          · have c2b : decide ((i : Int) < 40) = false := decide_eq_false c2
            have e40 : i = 40 := by have := HI.out; omega
            subst e40
            have D := Aside0.mk (HoldB.V (xs := List.replicate 40 true) (by have h := HH.out; simpa using h) (by simp) 40 (by simp))
            replace A := Aside0.mk (Kd.V_below A.out HQ.out)
            replace HB := Aside0.mk (below_step HB.out HQ.out)
            clear HH HQ HI
            go_wp2_with fail
            refine (Sort_n (desc := List.replicate 40 true) HN.out (by simp) HNT.out G0.out HT.out.2.2.2 HT.out.1 HT.out.2.1 HT.out.2.2.1 A.out A.out D.out).mono ?_
            rintro e w5 ⟨AS2, cS2, rfl, ho, hb⟩
            replace A := Aside0.mk (Kd.V_below A.out hb)
            replace HB := Aside0.mk (below_step HB.out hb)
            have S := Aside0.mk ho
            clear ho hb HT D
            go_wp2_with fail
            go_loopg [103] n (fun kq v103 w' => ∃ (i : Nat), v103 = .int .i64 (i : Int) ∧ Aside0 (i + kq = n) ∧ Aside0 (Kd.V (Kd.slice 33 k33) 22 w' 0 (fun _ => True) (.slice AS2 n cS2) T) ∧ Aside0 (Below w.heap.size w w'))
            case atStart => exact ⟨0, rfl, ⟨by simp⟩, S, HB⟩
            case round =>
              clear S HB A
              obtain ⟨i, rfl, HI, S, HB⟩ := hrel
              by_cases c3 : (i : Int) < (n : Int)
              · have c3b : decide ((i : Int) < (n : Int)) = true := decide_eq_true c3
                have p0 : (0 : Int) ≤ i := by omega
                obtain ⟨k1, rfl⟩ : ∃ k1, gk = k1 + 1 := ⟨gk - 1, by have := HI.out; omega⟩
                have HW := Aside0.mk (show wrap64 ((i : Int) + 1) = ((i + 1 : Nat) : Int) from wrapN i (by have := H40.out; omega))
                have HI' := Aside0.mk (show i + 1 + k1 = n by have := HI.out; omega)
                have HIN := Aside0.mk (show i < n by omega)
                clear HI
                by_cases cz : 0 < i
                · have z1 : decide ((i : Int) > 0) = true := decide_eq_true (by omega)
                  have z2 : decide (0 < i) = true := decide_eq_true cz
                  have z3 : (0 : Int) < (i : Int) := by omega
                  obtain ⟨i0, hi0⟩ : ∃ i0, i = i0 + 1 := ⟨i - 1, by omega⟩
                  have q1 : wrap64 ((i : Int) - 1) = (i0 : Int) := by have := H40.out; have := HIN.out; unfold wrap64; omega
                  have q2 : IntKind.i64.wrap ((i : Int) - 1) = (i0 : Int) := by have := H40.out; have := HIN.out; clear q1; rw [IntKind.wrap_i64]; omega
                  have q3 : (i0 : Int) < (n : Int) := by omega
                  have q4 : (0 : Int) ≤ (i0 : Int) := by omega
                  obtain ⟨rp, hrp⟩ : ∃ x, x = rd_L4 T (i0 : Int) := ⟨_, rfl⟩
                  obtain ⟨r, hr⟩ : ∃ x, x = rd_L4 T (i : Int) := ⟨_, rfl⟩
                  have GP := Aside0.mk (show gR rp by rw [hrp]; exact GT.out.2 _ (rd_in (by have := HNT.out; omega)))
                  have GR := Aside0.mk (show gR r by rw [hr]; exact GT.out.2 _ (rd_in (by have := HNT.out; omega)))
                  obtain ⟨o1, ho1⟩ : ∃ o, o = ordD rp r [] := ⟨_, rfl⟩
                  have hle : 0 ≤ o1 := by
                    have h1 := sorted_next PT.out.2 i0 i hi0 (by have := HNT.out; have := HIN.out; omega)
                    rw [← hrp, ← hr, ordD_turned 40 rp r GP.out.1 GR.out.1] at h1
                    omega
                  have z5 : decide (o1 < 0) = false := decide_eq_false (by omega)
                  have z6 : ¬ o1 < 0 := by omega
                  obtain ⟨ad, Aj, cj, e0, hx1, hv1⟩ := row_atn HNT.out S.out i0 q3
                  obtain ⟨ad', Ai, ci, e1, hx2, hv2⟩ := row_atn HNT.out S.out i c3
                  subst e0
                  cases e1
                  rw [← hrp] at hx1 hv1
                  rw [← hr] at hx2 hv2
                  have HO := Aside0.mk (ROrder_on GP.out GR.out hv1 hv2 ho1)
                  have HB1 := Aside0.mk (refl_of S.out)
                  clear hv1 hv2 ho1 hrp hr hle hi0 cz
                  go_wp2_with fail
                  go_region_held3 (fun w' => w'.cell? (ad.add i0) = some (.slice Aj rp.length cj) ∧ w'.cell? (ad.add i) = some (.slice Ai r.length ci))
                    (first | go_keep | (refine ⟨?_, ?_⟩ <;> refine pw_cell_below hbl ?_ <;> first | assumption | (simp only [*]; done)))
                    (first | (go_at_call 59; refine (HO.out _ (by first | exact HB1.out | exact below_drew1 HB1.out)).mono ?_; rintro e w_ ⟨rfl, hbl⟩; have n0_ := Aside0.mk (below_step (by first | exact HB1.out | exact below_drew1 HB1.out) hbl); clear HB1; have HB1 := n0_; clear n0_))
                  go_wp2_with fail
                  replace S := Aside0.mk (Kd.V_below S.out HB1.out)
                  replace HB := Aside0.mk (below_step HB.out HB1.out)
                  go_roundg k1
                  case measure => omega
                  case rel => exact ⟨i + 1, by rw [HW.out], HI', S, HB⟩
                · have z1 : decide ((i : Int) > 0) = false := decide_eq_false (by omega)
                  have z2 : decide (0 < i) = false := decide_eq_false cz
                  clear cz
                  go_wp2_with fail
                  go_quiet (fail)
                  have S1 := Aside0.mk (Kd.V_drewN S.out nq)
                  have HB1 := Aside0.mk (pw_below_drewN HB.out nq)
                  clear S HB z1 z2
                  generalize wr.drewN nq = W1 at S1 HB1 ⊢
                  go_wp2_with fail
                  go_roundg k1
                  case measure => omega
                  case rel => exact ⟨i + 1, by rw [HW.out], HI', S1, HB1⟩
              · have c3b : decide ((i : Int) < (n : Int)) = false := decide_eq_false c3
                have hself : (n == n) = true := by simp
                go_wp2_with fail
                refine (alive_calls _).mono ?_
                rintro e w9 ⟨rfl, hb⟩
                replace HB := Aside0.mk (below_step HB.out hb)
                clear hb
                go_wp2
                go_ret
                exact ⟨rfl, HB.out⟩
theorem RowsOrder.calls (A0 : Option Addr) (c0 : Nat) (l0 : List (List S33)) (w : World) (hr0 : Kd.C (Kd.slice 33 k33) w A0 l0.length l0) (hc0 : l0.length ≤ c0) (hp : ∃ k r, cordonlaw11_Few.f k [l0] = some r ∧ (r = true → ∀ l ∈ [l0], gL l)) :
    Calls Try.prog 14 #[.slice A0 l0.length c0] w fun e w' => e = .returned (.bool true) ∧ Below w.heap.size w w' := RowsOrder_n _ A0 c0 l0 rfl w hr0 hc0 hp
end Go.Proofs.Ythghflgmeepnlaa.Pa
namespace Go.Proofs.Ythghflgmeepnlaa.Pure
open Go.RowKit Go.Proofs.Ythghflgmeepnlaa.Pa
theorem RowsOrder (l0 : List (List S33)) (h0 : l0.length ≤ maxLen) (g0 : ∀ x ∈ l0, x.length ≤ maxLen ∧ ∀ y ∈ x, okv y) : ∃ k r, cordonlaw11_Few.f k [l0] = some r ∧ (r = true → ∀ l ∈ [l0], gL l) := by
  have hm : maxLen = 9223372036854775807 := rfl
  refine few11 [l0] (by simp) (fun l hl => ?_)
  simp only [List.mem_cons, List.not_mem_nil, or_false] at hl
  subst hl
  exact ⟨by omega, fun r hr => ⟨by have := (g0 r hr).1; omega, (g0 r hr).2⟩⟩
end Go.Proofs.Ythghflgmeepnlaa.Pure
end
