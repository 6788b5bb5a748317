-- Written by prn.py, a program of this session that drives the kit's print; not trusted: Lean checks it.
import Derived.Test.YthghflgmeepnlaaPax0
namespace Go.Proofs.Ythghflgmeepnlaa.Pa
open Go.RowKit Go.Proofs.YthghflgmeepnlaaW.PrintWords Go.Proofs.YthghflgmeepnlaaW.PrintLast Go.Proofs.YthghflgmeepnlaaW.PrintMore
attribute [local go_sem] max2_int min2_int max_two min_two max_three min_three max_four min_four   -- for this text's walks alone
set_option linter.unusedVariables false
set_option linter.unusedSimpArgs false

/-! ### cordonref01_Right: function 40 -/
def cordonref01_Right.j0 : Nat → Bool → Int → Int → ByteArray → Option (Int)
  | 0, _, _, _, _ => none
  | k + 1, x3, x157000, x157001, x157002 => if x3 = true then (if x157000 = 3 then (if (x157002.size : Int) > 1000 then (some 8) else (some 0)) else (some 0)) else (some 2)
def cordonref01_Right.f (k : Nat) (a0_0 : Int) (a0_1 : Int) (a0_2 : ByteArray) : Option (Int) := if a0_0 = 0 then (if a0_1 = 0 then (if a0_2.toList = ([] : List UInt8) then (cordonref01_Right.j0 k true a0_0 a0_1 a0_2) else (if a0_0 = 1 then (if a0_0 = 2 then (if a0_0 = 3 then (cordonref01_Right.j0 k (a0_1 == 0) a0_0 a0_1 a0_2) else (cordonref01_Right.j0 k false a0_0 a0_1 a0_2)) else (if a0_0 = 3 then (cordonref01_Right.j0 k (a0_1 == 0) a0_0 a0_1 a0_2) else (cordonref01_Right.j0 k false a0_0 a0_1 a0_2))) else (if a0_0 = 2 then (if a0_0 = 3 then (cordonref01_Right.j0 k (a0_1 == 0) a0_0 a0_1 a0_2) else (cordonref01_Right.j0 k false a0_0 a0_1 a0_2)) else (if a0_0 = 3 then (cordonref01_Right.j0 k (a0_1 == 0) a0_0 a0_1 a0_2) else (cordonref01_Right.j0 k false a0_0 a0_1 a0_2))))) else (if a0_0 = 1 then (if a0_1 = 1 then (if a0_2.toList = ([] : List UInt8) then (cordonref01_Right.j0 k true a0_0 a0_1 a0_2) else (if a0_0 = 2 then (if a0_0 = 3 then (cordonref01_Right.j0 k (a0_1 == 0) a0_0 a0_1 a0_2) else (cordonref01_Right.j0 k false a0_0 a0_1 a0_2)) else (if a0_0 = 3 then (cordonref01_Right.j0 k (a0_1 == 0) a0_0 a0_1 a0_2) else (cordonref01_Right.j0 k false a0_0 a0_1 a0_2)))) else (if a0_0 = 2 then (if a0_2.toList = ([] : List UInt8) then (cordonref01_Right.j0 k true a0_0 a0_1 a0_2) else (if a0_0 = 3 then (cordonref01_Right.j0 k (a0_1 == 0) a0_0 a0_1 a0_2) else (cordonref01_Right.j0 k false a0_0 a0_1 a0_2))) else (if a0_0 = 3 then (cordonref01_Right.j0 k (a0_1 == 0) a0_0 a0_1 a0_2) else (cordonref01_Right.j0 k false a0_0 a0_1 a0_2)))) else (if a0_0 = 2 then (if a0_2.toList = ([] : List UInt8) then (cordonref01_Right.j0 k true a0_0 a0_1 a0_2) else (if a0_0 = 3 then (cordonref01_Right.j0 k (a0_1 == 0) a0_0 a0_1 a0_2) else (cordonref01_Right.j0 k false a0_0 a0_1 a0_2))) else (if a0_0 = 3 then (cordonref01_Right.j0 k (a0_1 == 0) a0_0 a0_1 a0_2) else (cordonref01_Right.j0 k false a0_0 a0_1 a0_2))))) else (if a0_0 = 1 then (if a0_1 = 0 then (if a0_2.toList = ([] : List UInt8) then (cordonref01_Right.j0 k true a0_0 a0_1 a0_2) else (if a0_0 = 2 then (if a0_0 = 3 then (cordonref01_Right.j0 k (a0_1 == 0) a0_0 a0_1 a0_2) else (cordonref01_Right.j0 k false a0_0 a0_1 a0_2)) else (if a0_0 = 3 then (cordonref01_Right.j0 k (a0_1 == 0) a0_0 a0_1 a0_2) else (cordonref01_Right.j0 k false a0_0 a0_1 a0_2)))) else (if a0_1 = 1 then (if a0_2.toList = ([] : List UInt8) then (cordonref01_Right.j0 k true a0_0 a0_1 a0_2) else (if a0_0 = 2 then (if a0_0 = 3 then (cordonref01_Right.j0 k (a0_1 == 0) a0_0 a0_1 a0_2) else (cordonref01_Right.j0 k false a0_0 a0_1 a0_2)) else (if a0_0 = 3 then (cordonref01_Right.j0 k (a0_1 == 0) a0_0 a0_1 a0_2) else (cordonref01_Right.j0 k false a0_0 a0_1 a0_2)))) else (if a0_0 = 2 then (if a0_2.toList = ([] : List UInt8) then (cordonref01_Right.j0 k true a0_0 a0_1 a0_2) else (if a0_0 = 3 then (cordonref01_Right.j0 k (a0_1 == 0) a0_0 a0_1 a0_2) else (cordonref01_Right.j0 k false a0_0 a0_1 a0_2))) else (if a0_0 = 3 then (cordonref01_Right.j0 k (a0_1 == 0) a0_0 a0_1 a0_2) else (cordonref01_Right.j0 k false a0_0 a0_1 a0_2))))) else (if a0_0 = 2 then (if a0_2.toList = ([] : List UInt8) then (cordonref01_Right.j0 k true a0_0 a0_1 a0_2) else (if a0_0 = 3 then (cordonref01_Right.j0 k (a0_1 == 0) a0_0 a0_1 a0_2) else (cordonref01_Right.j0 k false a0_0 a0_1 a0_2))) else (if a0_0 = 3 then (cordonref01_Right.j0 k (a0_1 == 0) a0_0 a0_1 a0_2) else (cordonref01_Right.j0 k false a0_0 a0_1 a0_2))))
theorem cordonref01_Right.mono_l : ∀ k, (∀ y0 y1 y2 y3, LeO (cordonref01_Right.j0 k y0 y1 y2 y3) (cordonref01_Right.j0 (k + 1) y0 y1 y2 y3))
  | 0 => fun _ _ _ _ r h => by simp [cordonref01_Right.j0] at h
  | k + 1 => by
    have ih0 := cordonref01_Right.mono_l k
    · intro y0 y1 y2 y3
      unfold cordonref01_Right.j0
      repeat' first
      | (with_reducible exact ih0 _ _ _ _)
      | (with_reducible exact LeO.refl _)
      | (with_reducible exact LeO.none _)
      | (with_reducible refine LeO.ite ?_ ?_)
      | (with_reducible refine LeO.bind ?_ (fun _ => ?_))
      | exact ih0 _ _ _ _
      | exact LeO.none _
      | refine LeO.ite ?_ ?_
      | refine LeO.bind ?_ (fun _ => ?_)
theorem cordonref01_Right.mono : ∀ a0 a1 a2 k, LeO (cordonref01_Right.f k a0 a1 a2) (cordonref01_Right.f (k + 1) a0 a1 a2) := by
  intro a0 a1 a2 k
  have ih0 := cordonref01_Right.mono_l k
  unfold cordonref01_Right.f
  repeat' first
      | (with_reducible exact ih0 _ _ _ _)
      | (with_reducible exact LeO.refl _)
      | (with_reducible exact LeO.none _)
      | (with_reducible refine LeO.ite ?_ ?_)
      | (with_reducible refine LeO.bind ?_ (fun _ => ?_))
      | exact ih0 _ _ _ _
      | exact LeO.none _
      | refine LeO.ite ?_ ?_
      | refine LeO.bind ?_ (fun _ => ?_)
set_option maxHeartbeats 8000000 in
set_option maxRecDepth 100000 in
theorem cordonref01_Right.calls (k : Nat) (a0_0 : Int) (a0_1 : Int) (a0_2 : ByteArray) (r : Int) (w : World) (h : cordonref01_Right.f k a0_0 a0_1 a0_2 = some r) :
    Calls Try.prog 40 #[.agg #[.int .i64 a0_0, .int .i64 a0_1, .string a0_2]] w fun e w' => e = .returned (.int .i64 r) ∧ Below w.heap.size w w' := by
  have hu33 := Try.underlying33
  have HB := Aside0.mk (Below.refl w.heap.size w)
  have H : (if a0_0 = 0 then (if a0_1 = 0 then (if a0_2.toList = ([] : List UInt8) then (cordonref01_Right.j0 k true a0_0 a0_1 a0_2) else (if a0_0 = 1 then (if a0_0 = 2 then (if a0_0 = 3 then (cordonref01_Right.j0 k (a0_1 == 0) a0_0 a0_1 a0_2) else (cordonref01_Right.j0 k false a0_0 a0_1 a0_2)) else (if a0_0 = 3 then (cordonref01_Right.j0 k (a0_1 == 0) a0_0 a0_1 a0_2) else (cordonref01_Right.j0 k false a0_0 a0_1 a0_2))) else (if a0_0 = 2 then (if a0_0 = 3 then (cordonref01_Right.j0 k (a0_1 == 0) a0_0 a0_1 a0_2) else (cordonref01_Right.j0 k false a0_0 a0_1 a0_2)) else (if a0_0 = 3 then (cordonref01_Right.j0 k (a0_1 == 0) a0_0 a0_1 a0_2) else (cordonref01_Right.j0 k false a0_0 a0_1 a0_2))))) else (if a0_0 = 1 then (if a0_1 = 1 then (if a0_2.toList = ([] : List UInt8) then (cordonref01_Right.j0 k true a0_0 a0_1 a0_2) else (if a0_0 = 2 then (if a0_0 = 3 then (cordonref01_Right.j0 k (a0_1 == 0) a0_0 a0_1 a0_2) else (cordonref01_Right.j0 k false a0_0 a0_1 a0_2)) else (if a0_0 = 3 then (cordonref01_Right.j0 k (a0_1 == 0) a0_0 a0_1 a0_2) else (cordonref01_Right.j0 k false a0_0 a0_1 a0_2)))) else (if a0_0 = 2 then (if a0_2.toList = ([] : List UInt8) then (cordonref01_Right.j0 k true a0_0 a0_1 a0_2) else (if a0_0 = 3 then (cordonref01_Right.j0 k (a0_1 == 0) a0_0 a0_1 a0_2) else (cordonref01_Right.j0 k false a0_0 a0_1 a0_2))) else (if a0_0 = 3 then (cordonref01_Right.j0 k (a0_1 == 0) a0_0 a0_1 a0_2) else (cordonref01_Right.j0 k false a0_0 a0_1 a0_2)))) else (if a0_0 = 2 then (if a0_2.toList = ([] : List UInt8) then (cordonref01_Right.j0 k true a0_0 a0_1 a0_2) else (if a0_0 = 3 then (cordonref01_Right.j0 k (a0_1 == 0) a0_0 a0_1 a0_2) else (cordonref01_Right.j0 k false a0_0 a0_1 a0_2))) else (if a0_0 = 3 then (cordonref01_Right.j0 k (a0_1 == 0) a0_0 a0_1 a0_2) else (cordonref01_Right.j0 k false a0_0 a0_1 a0_2))))) else (if a0_0 = 1 then (if a0_1 = 0 then (if a0_2.toList = ([] : List UInt8) then (cordonref01_Right.j0 k true a0_0 a0_1 a0_2) else (if a0_0 = 2 then (if a0_0 = 3 then (cordonref01_Right.j0 k (a0_1 == 0) a0_0 a0_1 a0_2) else (cordonref01_Right.j0 k false a0_0 a0_1 a0_2)) else (if a0_0 = 3 then (cordonref01_Right.j0 k (a0_1 == 0) a0_0 a0_1 a0_2) else (cordonref01_Right.j0 k false a0_0 a0_1 a0_2)))) else (if a0_1 = 1 then (if a0_2.toList = ([] : List UInt8) then (cordonref01_Right.j0 k true a0_0 a0_1 a0_2) else (if a0_0 = 2 then (if a0_0 = 3 then (cordonref01_Right.j0 k (a0_1 == 0) a0_0 a0_1 a0_2) else (cordonref01_Right.j0 k false a0_0 a0_1 a0_2)) else (if a0_0 = 3 then (cordonref01_Right.j0 k (a0_1 == 0) a0_0 a0_1 a0_2) else (cordonref01_Right.j0 k false a0_0 a0_1 a0_2)))) else (if a0_0 = 2 then (if a0_2.toList = ([] : List UInt8) then (cordonref01_Right.j0 k true a0_0 a0_1 a0_2) else (if a0_0 = 3 then (cordonref01_Right.j0 k (a0_1 == 0) a0_0 a0_1 a0_2) else (cordonref01_Right.j0 k false a0_0 a0_1 a0_2))) else (if a0_0 = 3 then (cordonref01_Right.j0 k (a0_1 == 0) a0_0 a0_1 a0_2) else (cordonref01_Right.j0 k false a0_0 a0_1 a0_2))))) else (if a0_0 = 2 then (if a0_2.toList = ([] : List UInt8) then (cordonref01_Right.j0 k true a0_0 a0_1 a0_2) else (if a0_0 = 3 then (cordonref01_Right.j0 k (a0_1 == 0) a0_0 a0_1 a0_2) else (cordonref01_Right.j0 k false a0_0 a0_1 a0_2))) else (if a0_0 = 3 then (cordonref01_Right.j0 k (a0_1 == 0) a0_0 a0_1 a0_2) else (cordonref01_Right.j0 k false a0_0 a0_1 a0_2))))) = some r := h
  clear h
  have HC2 := Aside0.mk H
  clear H
  go_enter Try.func40, Try.ntmps40
  go_upto_region 1 with (first | ((with_reducible refine gate_dst (N := 1) rfl ?_); (try (refine gate_guard (by rfl) ?_; dsimp only)); refine box_event ?hg (N := 1) ?hd (cs := #[.int .i64 a0_0, .int .i64 a0_1, .string a0_2]) (t := 33) ?hr ?_; (case hd => rfl); (case hg => rfl); (case hr => first | (go_simp; done) | (go_simp; rfl)); intro gb156 hg w3 hbox hb; have n0_ := Aside0.mk (below_step (by repeat (first | (with_reducible first | exact HB.out | apply below_alloc | apply pw_below_drewN | apply below_drew1) | exact HB.out)) hb); have n1_ := Aside0.mk (hbox); have n2_ := Aside0.mk ((by rw [hg]; exact (below_size (by repeat (first | (with_reducible first | exact HB.out | apply below_alloc | apply pw_below_drewN | apply below_drew1) | exact HB.out))) : w.heap.size ≤ gb156)); have n3_ := Aside0.mk ((by rw [hg]; exact (below_size (by repeat (first | (with_reducible first | exact HB.out | apply below_alloc | apply pw_below_drewN | apply below_drew1) | exact HB.out))) : w.heap.size ≤ gb156)); clear HB; have HB := n0_; have BK156 := n1_; have GW156 := n2_; have GE156 := n3_; clear n0_ n1_ n2_ n3_; clear hb hbox hg))
  (try simp only [Act.put, List.setIfInBounds_toArray, List.set_cons_zero, List.set_cons_succ])
  go_cut [3] (fun v3 wc => ∃ (kq : Nat) (x3_1 : Bool), v3 = .bool x3_1 ∧ Aside0 (cordonref01_Right.j0 kq x3_1 a0_0 a0_1 a0_2 = some r) ∧ Aside0 (kq ≤ k) ∧ Aside0 (wc.heap[gb156]? = some (.cells #[.int .i64 a0_0, .int .i64 a0_1, .string a0_2] 33 (0, 0))) ∧ Aside0 (Below w.heap.size w wc))
  case first =>
    have H := HC2.out
    clear HC2
    by_cases c4 : a0_0 = 0
    · rw [if_pos c4] at H
      have c4b0 : (a0_0 == 0) = true := beq_iff_eq.mpr c4
      have c4b1 : (a0_0 != 0) = false := bne_eq_false_iff_eq.mpr c4
      clear c4
      (first | rw [c4b0] | (simp only [i64_w, i32_w]; rw [c4b0]) | skip)
      by_cases c5 : a0_1 = 0
      · rw [if_pos c5] at H
        have c5b0 : (a0_1 == 0) = true := beq_iff_eq.mpr c5
        have c5b1 : (a0_1 != 0) = false := bne_eq_false_iff_eq.mpr c5
        clear c5
        by_cases c6 : a0_2.toList = ([] : List UInt8)
        · rw [if_pos c6] at H
          have c6b0 : (a0_2.toList == ([] : List UInt8)) = true := beq_iff_eq.mpr c6
          have c6b1 : (a0_2.toList != ([] : List UInt8)) = false := bne_eq_false_iff_eq.mpr c6
          clear c6
          have H' := Aside0.mk H
          clear H
          have hcz7_0 : w3.cell? ⟨gb156, 0, none⟩ = some (.int .i64 a0_0) := (blk_cell BK156.out 0).trans rfl
          have hcz7_1 : w3.cell? ⟨gb156, 1, none⟩ = some (.int .i64 a0_1) := (blk_cell BK156.out 1).trans rfl
          have hcz7_2 : w3.cell? ⟨gb156, 2, none⟩ = some (.string a0_2) := (blk_cell BK156.out 2).trans rfl
          have hfz7_0 := blk_frozen BK156.out 0
          have hfz7_1 := blk_frozen BK156.out 1
          have hfz7_2 := blk_frozen BK156.out 2
          go_wp2
          go_meet
          case rel => exact ⟨_, (true), (by first | rfl | (simp; done) | (simp [*]; done)), H', ⟨by first | omega | exact Nat.le_refl _⟩, ⟨by (with_reducible repeat (first | refine blk_drewN ?_ _ | refine blk_drew ?_ | refine blk_alloc ?_ _)); exact BK156.out⟩, ⟨by repeat (first | (with_reducible first | exact HB.out | apply below_alloc | apply pw_below_drewN | apply below_drew1 | refine below_set ?_ GE156.out) | exact HB.out)⟩⟩
        · rw [if_neg c6] at H
          have c6b0 : (a0_2.toList == ([] : List UInt8)) = false := beq_eq_false_iff_ne.mpr c6
          have c6b1 : (a0_2.toList != ([] : List UInt8)) = true := bne_iff_ne.mpr c6
          by_cases c8 : a0_0 = 1
          · rw [if_pos c8] at H
            have c8b0 : (a0_0 == 1) = true := beq_iff_eq.mpr c8
            have c8b1 : (a0_0 != 1) = false := bne_eq_false_iff_eq.mpr c8
            clear c8
            by_cases c9 : a0_0 = 2
            · rw [if_pos c9] at H
              have c9b0 : (a0_0 == 2) = true := beq_iff_eq.mpr c9
              have c9b1 : (a0_0 != 2) = false := bne_eq_false_iff_eq.mpr c9
              clear c9
              by_cases c10 : a0_0 = 3
              · rw [if_pos c10] at H
                have c10b0 : (a0_0 == 3) = true := beq_iff_eq.mpr c10
                have c10b1 : (a0_0 != 3) = false := bne_eq_false_iff_eq.mpr c10
                clear c10
                have H' := Aside0.mk H
                clear H
                have hcz11_0 : w3.cell? ⟨gb156, 0, none⟩ = some (.int .i64 a0_0) := (blk_cell BK156.out 0).trans rfl
                have hcz11_1 : w3.cell? ⟨gb156, 1, none⟩ = some (.int .i64 a0_1) := (blk_cell BK156.out 1).trans rfl
                have hcz11_2 : w3.cell? ⟨gb156, 2, none⟩ = some (.string a0_2) := (blk_cell BK156.out 2).trans rfl
                have hfz11_0 := blk_frozen BK156.out 0
                have hfz11_1 := blk_frozen BK156.out 1
                have hfz11_2 := blk_frozen BK156.out 2
                go_wp2
                go_meet
                case rel => exact ⟨_, ((a0_1 == 0)), (by first | rfl | (simp; done) | (simp [*]; done)), H', ⟨by first | omega | exact Nat.le_refl _⟩, ⟨by (with_reducible repeat (first | refine blk_drewN ?_ _ | refine blk_drew ?_ | refine blk_alloc ?_ _)); exact BK156.out⟩, ⟨by repeat (first | (with_reducible first | exact HB.out | apply below_alloc | apply pw_below_drewN | apply below_drew1 | refine below_set ?_ GE156.out) | exact HB.out)⟩⟩
              · rw [if_neg c10] at H
                have c10b0 : (a0_0 == 3) = false := beq_eq_false_iff_ne.mpr c10
                have c10b1 : (a0_0 != 3) = true := bne_iff_ne.mpr c10
                have H' := Aside0.mk H
                clear H
                have hcz12_0 : w3.cell? ⟨gb156, 0, none⟩ = some (.int .i64 a0_0) := (blk_cell BK156.out 0).trans rfl
                have hcz12_1 : w3.cell? ⟨gb156, 1, none⟩ = some (.int .i64 a0_1) := (blk_cell BK156.out 1).trans rfl
                have hcz12_2 : w3.cell? ⟨gb156, 2, none⟩ = some (.string a0_2) := (blk_cell BK156.out 2).trans rfl
                have hfz12_0 := blk_frozen BK156.out 0
                have hfz12_1 := blk_frozen BK156.out 1
                have hfz12_2 := blk_frozen BK156.out 2
                go_wp2
                go_meet
                case rel => exact ⟨_, (false), (by first | rfl | (simp; done) | (simp [*]; done)), H', ⟨by first | omega | exact Nat.le_refl _⟩, ⟨by (with_reducible repeat (first | refine blk_drewN ?_ _ | refine blk_drew ?_ | refine blk_alloc ?_ _)); exact BK156.out⟩, ⟨by repeat (first | (with_reducible first | exact HB.out | apply below_alloc | apply pw_below_drewN | apply below_drew1 | refine below_set ?_ GE156.out) | exact HB.out)⟩⟩
            · rw [if_neg c9] at H
              have c9b0 : (a0_0 == 2) = false := beq_eq_false_iff_ne.mpr c9
              have c9b1 : (a0_0 != 2) = true := bne_iff_ne.mpr c9
              by_cases c13 : a0_0 = 3
              · rw [if_pos c13] at H
                have c13b0 : (a0_0 == 3) = true := beq_iff_eq.mpr c13
                have c13b1 : (a0_0 != 3) = false := bne_eq_false_iff_eq.mpr c13
                clear c13
                have H' := Aside0.mk H
                clear H
                have hcz14_0 : w3.cell? ⟨gb156, 0, none⟩ = some (.int .i64 a0_0) := (blk_cell BK156.out 0).trans rfl
                have hcz14_1 : w3.cell? ⟨gb156, 1, none⟩ = some (.int .i64 a0_1) := (blk_cell BK156.out 1).trans rfl
                have hcz14_2 : w3.cell? ⟨gb156, 2, none⟩ = some (.string a0_2) := (blk_cell BK156.out 2).trans rfl
                have hfz14_0 := blk_frozen BK156.out 0
                have hfz14_1 := blk_frozen BK156.out 1
                have hfz14_2 := blk_frozen BK156.out 2
                go_wp2
                go_meet
                case rel => exact ⟨_, ((a0_1 == 0)), (by first | rfl | (simp; done) | (simp [*]; done)), H', ⟨by first | omega | exact Nat.le_refl _⟩, ⟨by (with_reducible repeat (first | refine blk_drewN ?_ _ | refine blk_drew ?_ | refine blk_alloc ?_ _)); exact BK156.out⟩, ⟨by repeat (first | (with_reducible first | exact HB.out | apply below_alloc | apply pw_below_drewN | apply below_drew1 | refine below_set ?_ GE156.out) | exact HB.out)⟩⟩
              · rw [if_neg c13] at H
                have c13b0 : (a0_0 == 3) = false := beq_eq_false_iff_ne.mpr c13
                have c13b1 : (a0_0 != 3) = true := bne_iff_ne.mpr c13
                have H' := Aside0.mk H
                clear H
                have hcz15_0 : w3.cell? ⟨gb156, 0, none⟩ = some (.int .i64 a0_0) := (blk_cell BK156.out 0).trans rfl
                have hcz15_1 : w3.cell? ⟨gb156, 1, none⟩ = some (.int .i64 a0_1) := (blk_cell BK156.out 1).trans rfl
                have hcz15_2 : w3.cell? ⟨gb156, 2, none⟩ = some (.string a0_2) := (blk_cell BK156.out 2).trans rfl
                have hfz15_0 := blk_frozen BK156.out 0
                have hfz15_1 := blk_frozen BK156.out 1
                have hfz15_2 := blk_frozen BK156.out 2
                go_wp2
                go_meet
                case rel => exact ⟨_, (false), (by first | rfl | (simp; done) | (simp [*]; done)), H', ⟨by first | omega | exact Nat.le_refl _⟩, ⟨by (with_reducible repeat (first | refine blk_drewN ?_ _ | refine blk_drew ?_ | refine blk_alloc ?_ _)); exact BK156.out⟩, ⟨by repeat (first | (with_reducible first | exact HB.out | apply below_alloc | apply pw_below_drewN | apply below_drew1 | refine below_set ?_ GE156.out) | exact HB.out)⟩⟩
          · rw [if_neg c8] at H
            have c8b0 : (a0_0 == 1) = false := beq_eq_false_iff_ne.mpr c8
            have c8b1 : (a0_0 != 1) = true := bne_iff_ne.mpr c8
            by_cases c16 : a0_0 = 2
            · rw [if_pos c16] at H
              have c16b0 : (a0_0 == 2) = true := beq_iff_eq.mpr c16
              have c16b1 : (a0_0 != 2) = false := bne_eq_false_iff_eq.mpr c16
              clear c16
              by_cases c17 : a0_0 = 3
              · rw [if_pos c17] at H
                have c17b0 : (a0_0 == 3) = true := beq_iff_eq.mpr c17
                have c17b1 : (a0_0 != 3) = false := bne_eq_false_iff_eq.mpr c17
                clear c17
                have H' := Aside0.mk H
                clear H
                have hcz18_0 : w3.cell? ⟨gb156, 0, none⟩ = some (.int .i64 a0_0) := (blk_cell BK156.out 0).trans rfl
                have hcz18_1 : w3.cell? ⟨gb156, 1, none⟩ = some (.int .i64 a0_1) := (blk_cell BK156.out 1).trans rfl
                have hcz18_2 : w3.cell? ⟨gb156, 2, none⟩ = some (.string a0_2) := (blk_cell BK156.out 2).trans rfl
                have hfz18_0 := blk_frozen BK156.out 0
                have hfz18_1 := blk_frozen BK156.out 1
                have hfz18_2 := blk_frozen BK156.out 2
                go_wp2
                go_meet
                case rel => exact ⟨_, ((a0_1 == 0)), (by first | rfl | (simp; done) | (simp [*]; done)), H', ⟨by first | omega | exact Nat.le_refl _⟩, ⟨by (with_reducible repeat (first | refine blk_drewN ?_ _ | refine blk_drew ?_ | refine blk_alloc ?_ _)); exact BK156.out⟩, ⟨by repeat (first | (with_reducible first | exact HB.out | apply below_alloc | apply pw_below_drewN | apply below_drew1 | refine below_set ?_ GE156.out) | exact HB.out)⟩⟩
              · rw [if_neg c17] at H
                have c17b0 : (a0_0 == 3) = false := beq_eq_false_iff_ne.mpr c17
                have c17b1 : (a0_0 != 3) = true := bne_iff_ne.mpr c17
                have H' := Aside0.mk H
                clear H
                have hcz19_0 : w3.cell? ⟨gb156, 0, none⟩ = some (.int .i64 a0_0) := (blk_cell BK156.out 0).trans rfl
                have hcz19_1 : w3.cell? ⟨gb156, 1, none⟩ = some (.int .i64 a0_1) := (blk_cell BK156.out 1).trans rfl
                have hcz19_2 : w3.cell? ⟨gb156, 2, none⟩ = some (.string a0_2) := (blk_cell BK156.out 2).trans rfl
                have hfz19_0 := blk_frozen BK156.out 0
                have hfz19_1 := blk_frozen BK156.out 1
                have hfz19_2 := blk_frozen BK156.out 2
                go_wp2
                go_meet
                case rel => exact ⟨_, (false), (by first | rfl | (simp; done) | (simp [*]; done)), H', ⟨by first | omega | exact Nat.le_refl _⟩, ⟨by (with_reducible repeat (first | refine blk_drewN ?_ _ | refine blk_drew ?_ | refine blk_alloc ?_ _)); exact BK156.out⟩, ⟨by repeat (first | (with_reducible first | exact HB.out | apply below_alloc | apply pw_below_drewN | apply below_drew1 | refine below_set ?_ GE156.out) | exact HB.out)⟩⟩
            · rw [if_neg c16] at H
              have c16b0 : (a0_0 == 2) = false := beq_eq_false_iff_ne.mpr c16
              have c16b1 : (a0_0 != 2) = true := bne_iff_ne.mpr c16
              by_cases c20 : a0_0 = 3
              · rw [if_pos c20] at H
                have c20b0 : (a0_0 == 3) = true := beq_iff_eq.mpr c20
                have c20b1 : (a0_0 != 3) = false := bne_eq_false_iff_eq.mpr c20
                clear c20
                have H' := Aside0.mk H
                clear H
                have hcz21_0 : w3.cell? ⟨gb156, 0, none⟩ = some (.int .i64 a0_0) := (blk_cell BK156.out 0).trans rfl
                have hcz21_1 : w3.cell? ⟨gb156, 1, none⟩ = some (.int .i64 a0_1) := (blk_cell BK156.out 1).trans rfl
                have hcz21_2 : w3.cell? ⟨gb156, 2, none⟩ = some (.string a0_2) := (blk_cell BK156.out 2).trans rfl
                have hfz21_0 := blk_frozen BK156.out 0
                have hfz21_1 := blk_frozen BK156.out 1
                have hfz21_2 := blk_frozen BK156.out 2
                go_wp2
                go_meet
                case rel => exact ⟨_, ((a0_1 == 0)), (by first | rfl | (simp; done) | (simp [*]; done)), H', ⟨by first | omega | exact Nat.le_refl _⟩, ⟨by (with_reducible repeat (first | refine blk_drewN ?_ _ | refine blk_drew ?_ | refine blk_alloc ?_ _)); exact BK156.out⟩, ⟨by repeat (first | (with_reducible first | exact HB.out | apply below_alloc | apply pw_below_drewN | apply below_drew1 | refine below_set ?_ GE156.out) | exact HB.out)⟩⟩
              · rw [if_neg c20] at H
                have c20b0 : (a0_0 == 3) = false := beq_eq_false_iff_ne.mpr c20
                have c20b1 : (a0_0 != 3) = true := bne_iff_ne.mpr c20
                have H' := Aside0.mk H
                clear H
                have hcz22_0 : w3.cell? ⟨gb156, 0, none⟩ = some (.int .i64 a0_0) := (blk_cell BK156.out 0).trans rfl
                have hcz22_1 : w3.cell? ⟨gb156, 1, none⟩ = some (.int .i64 a0_1) := (blk_cell BK156.out 1).trans rfl
                have hcz22_2 : w3.cell? ⟨gb156, 2, none⟩ = some (.string a0_2) := (blk_cell BK156.out 2).trans rfl
                have hfz22_0 := blk_frozen BK156.out 0
                have hfz22_1 := blk_frozen BK156.out 1
                have hfz22_2 := blk_frozen BK156.out 2
                go_wp2
                go_meet
                case rel => exact ⟨_, (false), (by first | rfl | (simp; done) | (simp [*]; done)), H', ⟨by first | omega | exact Nat.le_refl _⟩, ⟨by (with_reducible repeat (first | refine blk_drewN ?_ _ | refine blk_drew ?_ | refine blk_alloc ?_ _)); exact BK156.out⟩, ⟨by repeat (first | (with_reducible first | exact HB.out | apply below_alloc | apply pw_below_drewN | apply below_drew1 | refine below_set ?_ GE156.out) | exact HB.out)⟩⟩
      · rw [if_neg c5] at H
        have c5b0 : (a0_1 == 0) = false := beq_eq_false_iff_ne.mpr c5
        have c5b1 : (a0_1 != 0) = true := bne_iff_ne.mpr c5
        by_cases c23 : a0_0 = 1
        · rw [if_pos c23] at H
          have c23b0 : (a0_0 == 1) = true := beq_iff_eq.mpr c23
          have c23b1 : (a0_0 != 1) = false := bne_eq_false_iff_eq.mpr c23
          clear c23
          by_cases c24 : a0_1 = 1
          · rw [if_pos c24] at H
            have c24b0 : (a0_1 == 1) = true := beq_iff_eq.mpr c24
            have c24b1 : (a0_1 != 1) = false := bne_eq_false_iff_eq.mpr c24
            clear c24
            by_cases c25 : a0_2.toList = ([] : List UInt8)
            · rw [if_pos c25] at H
              have c25b0 : (a0_2.toList == ([] : List UInt8)) = true := beq_iff_eq.mpr c25
              have c25b1 : (a0_2.toList != ([] : List UInt8)) = false := bne_eq_false_iff_eq.mpr c25
              clear c25
              have H' := Aside0.mk H
              clear H
              have hcz26_0 : w3.cell? ⟨gb156, 0, none⟩ = some (.int .i64 a0_0) := (blk_cell BK156.out 0).trans rfl
              have hcz26_1 : w3.cell? ⟨gb156, 1, none⟩ = some (.int .i64 a0_1) := (blk_cell BK156.out 1).trans rfl
              have hcz26_2 : w3.cell? ⟨gb156, 2, none⟩ = some (.string a0_2) := (blk_cell BK156.out 2).trans rfl
              have hfz26_0 := blk_frozen BK156.out 0
              have hfz26_1 := blk_frozen BK156.out 1
              have hfz26_2 := blk_frozen BK156.out 2
              go_wp2
              go_meet
              case rel => exact ⟨_, (true), (by first | rfl | (simp; done) | (simp [*]; done)), H', ⟨by first | omega | exact Nat.le_refl _⟩, ⟨by (with_reducible repeat (first | refine blk_drewN ?_ _ | refine blk_drew ?_ | refine blk_alloc ?_ _)); exact BK156.out⟩, ⟨by repeat (first | (with_reducible first | exact HB.out | apply below_alloc | apply pw_below_drewN | apply below_drew1 | refine below_set ?_ GE156.out) | exact HB.out)⟩⟩
            · rw [if_neg c25] at H
              have c25b0 : (a0_2.toList == ([] : List UInt8)) = false := beq_eq_false_iff_ne.mpr c25
              have c25b1 : (a0_2.toList != ([] : List UInt8)) = true := bne_iff_ne.mpr c25
              by_cases c27 : a0_0 = 2
              · rw [if_pos c27] at H
                have c27b0 : (a0_0 == 2) = true := beq_iff_eq.mpr c27
                have c27b1 : (a0_0 != 2) = false := bne_eq_false_iff_eq.mpr c27
                clear c27
                by_cases c28 : a0_0 = 3
                · rw [if_pos c28] at H
                  have c28b0 : (a0_0 == 3) = true := beq_iff_eq.mpr c28
                  have c28b1 : (a0_0 != 3) = false := bne_eq_false_iff_eq.mpr c28
                  clear c28
                  have H' := Aside0.mk H
                  clear H
                  have hcz29_0 : w3.cell? ⟨gb156, 0, none⟩ = some (.int .i64 a0_0) := (blk_cell BK156.out 0).trans rfl
                  have hcz29_1 : w3.cell? ⟨gb156, 1, none⟩ = some (.int .i64 a0_1) := (blk_cell BK156.out 1).trans rfl
                  have hcz29_2 : w3.cell? ⟨gb156, 2, none⟩ = some (.string a0_2) := (blk_cell BK156.out 2).trans rfl
                  have hfz29_0 := blk_frozen BK156.out 0
                  have hfz29_1 := blk_frozen BK156.out 1
                  have hfz29_2 := blk_frozen BK156.out 2
                  go_wp2
                  go_meet
                  case rel => exact ⟨_, ((a0_1 == 0)), (by first | rfl | (simp; done) | (simp [*]; done)), H', ⟨by first | omega | exact Nat.le_refl _⟩, ⟨by (with_reducible repeat (first | refine blk_drewN ?_ _ | refine blk_drew ?_ | refine blk_alloc ?_ _)); exact BK156.out⟩, ⟨by repeat (first | (with_reducible first | exact HB.out | apply below_alloc | apply pw_below_drewN | apply below_drew1 | refine below_set ?_ GE156.out) | exact HB.out)⟩⟩
                · rw [if_neg c28] at H
                  have c28b0 : (a0_0 == 3) = false := beq_eq_false_iff_ne.mpr c28
                  have c28b1 : (a0_0 != 3) = true := bne_iff_ne.mpr c28
                  have H' := Aside0.mk H
                  clear H
                  have hcz30_0 : w3.cell? ⟨gb156, 0, none⟩ = some (.int .i64 a0_0) := (blk_cell BK156.out 0).trans rfl
                  have hcz30_1 : w3.cell? ⟨gb156, 1, none⟩ = some (.int .i64 a0_1) := (blk_cell BK156.out 1).trans rfl
                  have hcz30_2 : w3.cell? ⟨gb156, 2, none⟩ = some (.string a0_2) := (blk_cell BK156.out 2).trans rfl
                  have hfz30_0 := blk_frozen BK156.out 0
                  have hfz30_1 := blk_frozen BK156.out 1
                  have hfz30_2 := blk_frozen BK156.out 2
                  go_wp2
                  go_meet
                  case rel => exact ⟨_, (false), (by first | rfl | (simp; done) | (simp [*]; done)), H', ⟨by first | omega | exact Nat.le_refl _⟩, ⟨by (with_reducible repeat (first | refine blk_drewN ?_ _ | refine blk_drew ?_ | refine blk_alloc ?_ _)); exact BK156.out⟩, ⟨by repeat (first | (with_reducible first | exact HB.out | apply below_alloc | apply pw_below_drewN | apply below_drew1 | refine below_set ?_ GE156.out) | exact HB.out)⟩⟩
              · rw [if_neg c27] at H
                have c27b0 : (a0_0 == 2) = false := beq_eq_false_iff_ne.mpr c27
                have c27b1 : (a0_0 != 2) = true := bne_iff_ne.mpr c27
                by_cases c31 : a0_0 = 3
                · rw [if_pos c31] at H
                  have c31b0 : (a0_0 == 3) = true := beq_iff_eq.mpr c31
                  have c31b1 : (a0_0 != 3) = false := bne_eq_false_iff_eq.mpr c31
                  clear c31
                  have H' := Aside0.mk H
                  clear H
                  have hcz32_0 : w3.cell? ⟨gb156, 0, none⟩ = some (.int .i64 a0_0) := (blk_cell BK156.out 0).trans rfl
                  have hcz32_1 : w3.cell? ⟨gb156, 1, none⟩ = some (.int .i64 a0_1) := (blk_cell BK156.out 1).trans rfl
                  have hcz32_2 : w3.cell? ⟨gb156, 2, none⟩ = some (.string a0_2) := (blk_cell BK156.out 2).trans rfl
                  have hfz32_0 := blk_frozen BK156.out 0
                  have hfz32_1 := blk_frozen BK156.out 1
                  have hfz32_2 := blk_frozen BK156.out 2
                  go_wp2
                  go_meet
                  case rel => exact ⟨_, ((a0_1 == 0)), (by first | rfl | (simp; done) | (simp [*]; done)), H', ⟨by first | omega | exact Nat.le_refl _⟩, ⟨by (with_reducible repeat (first | refine blk_drewN ?_ _ | refine blk_drew ?_ | refine blk_alloc ?_ _)); exact BK156.out⟩, ⟨by repeat (first | (with_reducible first | exact HB.out | apply below_alloc | apply pw_below_drewN | apply below_drew1 | refine below_set ?_ GE156.out) | exact HB.out)⟩⟩
                · rw [if_neg c31] at H
                  have c31b0 : (a0_0 == 3) = false := beq_eq_false_iff_ne.mpr c31
                  have c31b1 : (a0_0 != 3) = true := bne_iff_ne.mpr c31
                  have H' := Aside0.mk H
                  clear H
                  have hcz33_0 : w3.cell? ⟨gb156, 0, none⟩ = some (.int .i64 a0_0) := (blk_cell BK156.out 0).trans rfl
                  have hcz33_1 : w3.cell? ⟨gb156, 1, none⟩ = some (.int .i64 a0_1) := (blk_cell BK156.out 1).trans rfl
                  have hcz33_2 : w3.cell? ⟨gb156, 2, none⟩ = some (.string a0_2) := (blk_cell BK156.out 2).trans rfl
                  have hfz33_0 := blk_frozen BK156.out 0
                  have hfz33_1 := blk_frozen BK156.out 1
                  have hfz33_2 := blk_frozen BK156.out 2
                  go_wp2
                  go_meet
                  case rel => exact ⟨_, (false), (by first | rfl | (simp; done) | (simp [*]; done)), H', ⟨by first | omega | exact Nat.le_refl _⟩, ⟨by (with_reducible repeat (first | refine blk_drewN ?_ _ | refine blk_drew ?_ | refine blk_alloc ?_ _)); exact BK156.out⟩, ⟨by repeat (first | (with_reducible first | exact HB.out | apply below_alloc | apply pw_below_drewN | apply below_drew1 | refine below_set ?_ GE156.out) | exact HB.out)⟩⟩
          · rw [if_neg c24] at H
            have c24b0 : (a0_1 == 1) = false := beq_eq_false_iff_ne.mpr c24
            have c24b1 : (a0_1 != 1) = true := bne_iff_ne.mpr c24
            by_cases c34 : a0_0 = 2
            · rw [if_pos c34] at H
              have c34b0 : (a0_0 == 2) = true := beq_iff_eq.mpr c34
              have c34b1 : (a0_0 != 2) = false := bne_eq_false_iff_eq.mpr c34
              clear c34
              by_cases c35 : a0_2.toList = ([] : List UInt8)
              · rw [if_pos c35] at H
                have c35b0 : (a0_2.toList == ([] : List UInt8)) = true := beq_iff_eq.mpr c35
                have c35b1 : (a0_2.toList != ([] : List UInt8)) = false := bne_eq_false_iff_eq.mpr c35
                clear c35
                have H' := Aside0.mk H
                clear H
                have hcz36_0 : w3.cell? ⟨gb156, 0, none⟩ = some (.int .i64 a0_0) := (blk_cell BK156.out 0).trans rfl
                have hcz36_1 : w3.cell? ⟨gb156, 1, none⟩ = some (.int .i64 a0_1) := (blk_cell BK156.out 1).trans rfl
                have hcz36_2 : w3.cell? ⟨gb156, 2, none⟩ = some (.string a0_2) := (blk_cell BK156.out 2).trans rfl
                have hfz36_0 := blk_frozen BK156.out 0
                have hfz36_1 := blk_frozen BK156.out 1
                have hfz36_2 := blk_frozen BK156.out 2
                go_wp2
                go_meet
                case rel => exact ⟨_, (true), (by first | rfl | (simp; done) | (simp [*]; done)), H', ⟨by first | omega | exact Nat.le_refl _⟩, ⟨by (with_reducible repeat (first | refine blk_drewN ?_ _ | refine blk_drew ?_ | refine blk_alloc ?_ _)); exact BK156.out⟩, ⟨by repeat (first | (with_reducible first | exact HB.out | apply below_alloc | apply pw_below_drewN | apply below_drew1 | refine below_set ?_ GE156.out) | exact HB.out)⟩⟩
              · rw [if_neg c35] at H
                have c35b0 : (a0_2.toList == ([] : List UInt8)) = false := beq_eq_false_iff_ne.mpr c35
                have c35b1 : (a0_2.toList != ([] : List UInt8)) = true := bne_iff_ne.mpr c35
                by_cases c37 : a0_0 = 3
                · rw [if_pos c37] at H
                  have c37b0 : (a0_0 == 3) = true := beq_iff_eq.mpr c37
                  have c37b1 : (a0_0 != 3) = false := bne_eq_false_iff_eq.mpr c37
                  clear c37
                  have H' := Aside0.mk H
                  clear H
                  have hcz38_0 : w3.cell? ⟨gb156, 0, none⟩ = some (.int .i64 a0_0) := (blk_cell BK156.out 0).trans rfl
                  have hcz38_1 : w3.cell? ⟨gb156, 1, none⟩ = some (.int .i64 a0_1) := (blk_cell BK156.out 1).trans rfl
                  have hcz38_2 : w3.cell? ⟨gb156, 2, none⟩ = some (.string a0_2) := (blk_cell BK156.out 2).trans rfl
                  have hfz38_0 := blk_frozen BK156.out 0
                  have hfz38_1 := blk_frozen BK156.out 1
                  have hfz38_2 := blk_frozen BK156.out 2
                  go_wp2
                  go_meet
                  case rel => exact ⟨_, ((a0_1 == 0)), (by first | rfl | (simp; done) | (simp [*]; done)), H', ⟨by first | omega | exact Nat.le_refl _⟩, ⟨by (with_reducible repeat (first | refine blk_drewN ?_ _ | refine blk_drew ?_ | refine blk_alloc ?_ _)); exact BK156.out⟩, ⟨by repeat (first | (with_reducible first | exact HB.out | apply below_alloc | apply pw_below_drewN | apply below_drew1 | refine below_set ?_ GE156.out) | exact HB.out)⟩⟩
                · rw [if_neg c37] at H
                  have c37b0 : (a0_0 == 3) = false := beq_eq_false_iff_ne.mpr c37
                  have c37b1 : (a0_0 != 3) = true := bne_iff_ne.mpr c37
                  have H' := Aside0.mk H
                  clear H
                  have hcz39_0 : w3.cell? ⟨gb156, 0, none⟩ = some (.int .i64 a0_0) := (blk_cell BK156.out 0).trans rfl
                  have hcz39_1 : w3.cell? ⟨gb156, 1, none⟩ = some (.int .i64 a0_1) := (blk_cell BK156.out 1).trans rfl
                  have hcz39_2 : w3.cell? ⟨gb156, 2, none⟩ = some (.string a0_2) := (blk_cell BK156.out 2).trans rfl
                  have hfz39_0 := blk_frozen BK156.out 0
                  have hfz39_1 := blk_frozen BK156.out 1
                  have hfz39_2 := blk_frozen BK156.out 2
                  go_wp2
                  go_meet
                  case rel => exact ⟨_, (false), (by first | rfl | (simp; done) | (simp [*]; done)), H', ⟨by first | omega | exact Nat.le_refl _⟩, ⟨by (with_reducible repeat (first | refine blk_drewN ?_ _ | refine blk_drew ?_ | refine blk_alloc ?_ _)); exact BK156.out⟩, ⟨by repeat (first | (with_reducible first | exact HB.out | apply below_alloc | apply pw_below_drewN | apply below_drew1 | refine below_set ?_ GE156.out) | exact HB.out)⟩⟩
            · rw [if_neg c34] at H
              have c34b0 : (a0_0 == 2) = false := beq_eq_false_iff_ne.mpr c34
              have c34b1 : (a0_0 != 2) = true := bne_iff_ne.mpr c34
              by_cases c40 : a0_0 = 3
              · rw [if_pos c40] at H
                have c40b0 : (a0_0 == 3) = true := beq_iff_eq.mpr c40
                have c40b1 : (a0_0 != 3) = false := bne_eq_false_iff_eq.mpr c40
                clear c40
                have H' := Aside0.mk H
                clear H
                have hcz41_0 : w3.cell? ⟨gb156, 0, none⟩ = some (.int .i64 a0_0) := (blk_cell BK156.out 0).trans rfl
                have hcz41_1 : w3.cell? ⟨gb156, 1, none⟩ = some (.int .i64 a0_1) := (blk_cell BK156.out 1).trans rfl
                have hcz41_2 : w3.cell? ⟨gb156, 2, none⟩ = some (.string a0_2) := (blk_cell BK156.out 2).trans rfl
                have hfz41_0 := blk_frozen BK156.out 0
                have hfz41_1 := blk_frozen BK156.out 1
                have hfz41_2 := blk_frozen BK156.out 2
                go_wp2
                go_meet
                case rel => exact ⟨_, ((a0_1 == 0)), (by first | rfl | (simp; done) | (simp [*]; done)), H', ⟨by first | omega | exact Nat.le_refl _⟩, ⟨by (with_reducible repeat (first | refine blk_drewN ?_ _ | refine blk_drew ?_ | refine blk_alloc ?_ _)); exact BK156.out⟩, ⟨by repeat (first | (with_reducible first | exact HB.out | apply below_alloc | apply pw_below_drewN | apply below_drew1 | refine below_set ?_ GE156.out) | exact HB.out)⟩⟩
              · rw [if_neg c40] at H
                have c40b0 : (a0_0 == 3) = false := beq_eq_false_iff_ne.mpr c40
                have c40b1 : (a0_0 != 3) = true := bne_iff_ne.mpr c40
                have H' := Aside0.mk H
                clear H
                have hcz42_0 : w3.cell? ⟨gb156, 0, none⟩ = some (.int .i64 a0_0) := (blk_cell BK156.out 0).trans rfl
                have hcz42_1 : w3.cell? ⟨gb156, 1, none⟩ = some (.int .i64 a0_1) := (blk_cell BK156.out 1).trans rfl
                have hcz42_2 : w3.cell? ⟨gb156, 2, none⟩ = some (.string a0_2) := (blk_cell BK156.out 2).trans rfl
                have hfz42_0 := blk_frozen BK156.out 0
                have hfz42_1 := blk_frozen BK156.out 1
                have hfz42_2 := blk_frozen BK156.out 2
                go_wp2
                go_meet
                case rel => exact ⟨_, (false), (by first | rfl | (simp; done) | (simp [*]; done)), H', ⟨by first | omega | exact Nat.le_refl _⟩, ⟨by (with_reducible repeat (first | refine blk_drewN ?_ _ | refine blk_drew ?_ | refine blk_alloc ?_ _)); exact BK156.out⟩, ⟨by repeat (first | (with_reducible first | exact HB.out | apply below_alloc | apply pw_below_drewN | apply below_drew1 | refine below_set ?_ GE156.out) | exact HB.out)⟩⟩
        · rw [if_neg c23] at H
          have c23b0 : (a0_0 == 1) = false := beq_eq_false_iff_ne.mpr c23
          have c23b1 : (a0_0 != 1) = true := bne_iff_ne.mpr c23
          by_cases c43 : a0_0 = 2
          · rw [if_pos c43] at H
            have c43b0 : (a0_0 == 2) = true := beq_iff_eq.mpr c43
            have c43b1 : (a0_0 != 2) = false := bne_eq_false_iff_eq.mpr c43
            clear c43
            by_cases c44 : a0_2.toList = ([] : List UInt8)
            · rw [if_pos c44] at H
              have c44b0 : (a0_2.toList == ([] : List UInt8)) = true := beq_iff_eq.mpr c44
              have c44b1 : (a0_2.toList != ([] : List UInt8)) = false := bne_eq_false_iff_eq.mpr c44
              clear c44
              have H' := Aside0.mk H
              clear H
              have hcz45_0 : w3.cell? ⟨gb156, 0, none⟩ = some (.int .i64 a0_0) := (blk_cell BK156.out 0).trans rfl
              have hcz45_1 : w3.cell? ⟨gb156, 1, none⟩ = some (.int .i64 a0_1) := (blk_cell BK156.out 1).trans rfl
              have hcz45_2 : w3.cell? ⟨gb156, 2, none⟩ = some (.string a0_2) := (blk_cell BK156.out 2).trans rfl
              have hfz45_0 := blk_frozen BK156.out 0
              have hfz45_1 := blk_frozen BK156.out 1
              have hfz45_2 := blk_frozen BK156.out 2
              go_wp2
              go_meet
              case rel => exact ⟨_, (true), (by first | rfl | (simp; done) | (simp [*]; done)), H', ⟨by first | omega | exact Nat.le_refl _⟩, ⟨by (with_reducible repeat (first | refine blk_drewN ?_ _ | refine blk_drew ?_ | refine blk_alloc ?_ _)); exact BK156.out⟩, ⟨by repeat (first | (with_reducible first | exact HB.out | apply below_alloc | apply pw_below_drewN | apply below_drew1 | refine below_set ?_ GE156.out) | exact HB.out)⟩⟩
            · rw [if_neg c44] at H
              have c44b0 : (a0_2.toList == ([] : List UInt8)) = false := beq_eq_false_iff_ne.mpr c44
              have c44b1 : (a0_2.toList != ([] : List UInt8)) = true := bne_iff_ne.mpr c44
              by_cases c46 : a0_0 = 3
              · rw [if_pos c46] at H
                have c46b0 : (a0_0 == 3) = true := beq_iff_eq.mpr c46
                have c46b1 : (a0_0 != 3) = false := bne_eq_false_iff_eq.mpr c46
                clear c46
                have H' := Aside0.mk H
                clear H
                have hcz47_0 : w3.cell? ⟨gb156, 0, none⟩ = some (.int .i64 a0_0) := (blk_cell BK156.out 0).trans rfl
                have hcz47_1 : w3.cell? ⟨gb156, 1, none⟩ = some (.int .i64 a0_1) := (blk_cell BK156.out 1).trans rfl
                have hcz47_2 : w3.cell? ⟨gb156, 2, none⟩ = some (.string a0_2) := (blk_cell BK156.out 2).trans rfl
                have hfz47_0 := blk_frozen BK156.out 0
                have hfz47_1 := blk_frozen BK156.out 1
                have hfz47_2 := blk_frozen BK156.out 2
                go_wp2
                go_meet
                case rel => exact ⟨_, ((a0_1 == 0)), (by first | rfl | (simp; done) | (simp [*]; done)), H', ⟨by first | omega | exact Nat.le_refl _⟩, ⟨by (with_reducible repeat (first | refine blk_drewN ?_ _ | refine blk_drew ?_ | refine blk_alloc ?_ _)); exact BK156.out⟩, ⟨by repeat (first | (with_reducible first | exact HB.out | apply below_alloc | apply pw_below_drewN | apply below_drew1 | refine below_set ?_ GE156.out) | exact HB.out)⟩⟩
              · rw [if_neg c46] at H
                have c46b0 : (a0_0 == 3) = false := beq_eq_false_iff_ne.mpr c46
                have c46b1 : (a0_0 != 3) = true := bne_iff_ne.mpr c46
                have H' := Aside0.mk H
                clear H
                have hcz48_0 : w3.cell? ⟨gb156, 0, none⟩ = some (.int .i64 a0_0) := (blk_cell BK156.out 0).trans rfl
                have hcz48_1 : w3.cell? ⟨gb156, 1, none⟩ = some (.int .i64 a0_1) := (blk_cell BK156.out 1).trans rfl
                have hcz48_2 : w3.cell? ⟨gb156, 2, none⟩ = some (.string a0_2) := (blk_cell BK156.out 2).trans rfl
                have hfz48_0 := blk_frozen BK156.out 0
                have hfz48_1 := blk_frozen BK156.out 1
                have hfz48_2 := blk_frozen BK156.out 2
                go_wp2
                go_meet
                case rel => exact ⟨_, (false), (by first | rfl | (simp; done) | (simp [*]; done)), H', ⟨by first | omega | exact Nat.le_refl _⟩, ⟨by (with_reducible repeat (first | refine blk_drewN ?_ _ | refine blk_drew ?_ | refine blk_alloc ?_ _)); exact BK156.out⟩, ⟨by repeat (first | (with_reducible first | exact HB.out | apply below_alloc | apply pw_below_drewN | apply below_drew1 | refine below_set ?_ GE156.out) | exact HB.out)⟩⟩
          · rw [if_neg c43] at H
            have c43b0 : (a0_0 == 2) = false := beq_eq_false_iff_ne.mpr c43
            have c43b1 : (a0_0 != 2) = true := bne_iff_ne.mpr c43
            by_cases c49 : a0_0 = 3
            · rw [if_pos c49] at H
              have c49b0 : (a0_0 == 3) = true := beq_iff_eq.mpr c49
              have c49b1 : (a0_0 != 3) = false := bne_eq_false_iff_eq.mpr c49
              clear c49
              have H' := Aside0.mk H
              clear H
              have hcz50_0 : w3.cell? ⟨gb156, 0, none⟩ = some (.int .i64 a0_0) := (blk_cell BK156.out 0).trans rfl
              have hcz50_1 : w3.cell? ⟨gb156, 1, none⟩ = some (.int .i64 a0_1) := (blk_cell BK156.out 1).trans rfl
              have hcz50_2 : w3.cell? ⟨gb156, 2, none⟩ = some (.string a0_2) := (blk_cell BK156.out 2).trans rfl
              have hfz50_0 := blk_frozen BK156.out 0
              have hfz50_1 := blk_frozen BK156.out 1
              have hfz50_2 := blk_frozen BK156.out 2
              go_wp2
              go_meet
              case rel => exact ⟨_, ((a0_1 == 0)), (by first | rfl | (simp; done) | (simp [*]; done)), H', ⟨by first | omega | exact Nat.le_refl _⟩, ⟨by (with_reducible repeat (first | refine blk_drewN ?_ _ | refine blk_drew ?_ | refine blk_alloc ?_ _)); exact BK156.out⟩, ⟨by repeat (first | (with_reducible first | exact HB.out | apply below_alloc | apply pw_below_drewN | apply below_drew1 | refine below_set ?_ GE156.out) | exact HB.out)⟩⟩
            · rw [if_neg c49] at H
              have c49b0 : (a0_0 == 3) = false := beq_eq_false_iff_ne.mpr c49
              have c49b1 : (a0_0 != 3) = true := bne_iff_ne.mpr c49
              have H' := Aside0.mk H
              clear H
              have hcz51_0 : w3.cell? ⟨gb156, 0, none⟩ = some (.int .i64 a0_0) := (blk_cell BK156.out 0).trans rfl
              have hcz51_1 : w3.cell? ⟨gb156, 1, none⟩ = some (.int .i64 a0_1) := (blk_cell BK156.out 1).trans rfl
              have hcz51_2 : w3.cell? ⟨gb156, 2, none⟩ = some (.string a0_2) := (blk_cell BK156.out 2).trans rfl
              have hfz51_0 := blk_frozen BK156.out 0
              have hfz51_1 := blk_frozen BK156.out 1
              have hfz51_2 := blk_frozen BK156.out 2
              go_wp2
              go_meet
              case rel => exact ⟨_, (false), (by first | rfl | (simp; done) | (simp [*]; done)), H', ⟨by first | omega | exact Nat.le_refl _⟩, ⟨by (with_reducible repeat (first | refine blk_drewN ?_ _ | refine blk_drew ?_ | refine blk_alloc ?_ _)); exact BK156.out⟩, ⟨by repeat (first | (with_reducible first | exact HB.out | apply below_alloc | apply pw_below_drewN | apply below_drew1 | refine below_set ?_ GE156.out) | exact HB.out)⟩⟩
    · rw [if_neg c4] at H
      have c4b0 : (a0_0 == 0) = false := beq_eq_false_iff_ne.mpr c4
      have c4b1 : (a0_0 != 0) = true := bne_iff_ne.mpr c4
      (first | rw [c4b0] | (simp only [i64_w, i32_w]; rw [c4b0]) | skip)
      by_cases c52 : a0_0 = 1
      · rw [if_pos c52] at H
        have c52b0 : (a0_0 == 1) = true := beq_iff_eq.mpr c52
        have c52b1 : (a0_0 != 1) = false := bne_eq_false_iff_eq.mpr c52
        clear c52
        by_cases c53 : a0_1 = 0
        · rw [if_pos c53] at H
          have c53b0 : (a0_1 == 0) = true := beq_iff_eq.mpr c53
          have c53b1 : (a0_1 != 0) = false := bne_eq_false_iff_eq.mpr c53
          clear c53
          by_cases c54 : a0_2.toList = ([] : List UInt8)
          · rw [if_pos c54] at H
            have c54b0 : (a0_2.toList == ([] : List UInt8)) = true := beq_iff_eq.mpr c54
            have c54b1 : (a0_2.toList != ([] : List UInt8)) = false := bne_eq_false_iff_eq.mpr c54
            clear c54
            have H' := Aside0.mk H
            clear H
            have hcz55_0 : w3.cell? ⟨gb156, 0, none⟩ = some (.int .i64 a0_0) := (blk_cell BK156.out 0).trans rfl
            have hcz55_1 : w3.cell? ⟨gb156, 1, none⟩ = some (.int .i64 a0_1) := (blk_cell BK156.out 1).trans rfl
            have hcz55_2 : w3.cell? ⟨gb156, 2, none⟩ = some (.string a0_2) := (blk_cell BK156.out 2).trans rfl
            have hfz55_0 := blk_frozen BK156.out 0
            have hfz55_1 := blk_frozen BK156.out 1
            have hfz55_2 := blk_frozen BK156.out 2
            go_wp2
            go_meet
            case rel => exact ⟨_, (true), (by first | rfl | (simp; done) | (simp [*]; done)), H', ⟨by first | omega | exact Nat.le_refl _⟩, ⟨by (with_reducible repeat (first | refine blk_drewN ?_ _ | refine blk_drew ?_ | refine blk_alloc ?_ _)); exact BK156.out⟩, ⟨by repeat (first | (with_reducible first | exact HB.out | apply below_alloc | apply pw_below_drewN | apply below_drew1 | refine below_set ?_ GE156.out) | exact HB.out)⟩⟩
          · rw [if_neg c54] at H
            have c54b0 : (a0_2.toList == ([] : List UInt8)) = false := beq_eq_false_iff_ne.mpr c54
            have c54b1 : (a0_2.toList != ([] : List UInt8)) = true := bne_iff_ne.mpr c54
            by_cases c56 : a0_0 = 2
            · rw [if_pos c56] at H
              have c56b0 : (a0_0 == 2) = true := beq_iff_eq.mpr c56
              have c56b1 : (a0_0 != 2) = false := bne_eq_false_iff_eq.mpr c56
              clear c56
              by_cases c57 : a0_0 = 3
              · rw [if_pos c57] at H
                have c57b0 : (a0_0 == 3) = true := beq_iff_eq.mpr c57
                have c57b1 : (a0_0 != 3) = false := bne_eq_false_iff_eq.mpr c57
                clear c57
                have H' := Aside0.mk H
                clear H
                have hcz58_0 : w3.cell? ⟨gb156, 0, none⟩ = some (.int .i64 a0_0) := (blk_cell BK156.out 0).trans rfl
                have hcz58_1 : w3.cell? ⟨gb156, 1, none⟩ = some (.int .i64 a0_1) := (blk_cell BK156.out 1).trans rfl
                have hcz58_2 : w3.cell? ⟨gb156, 2, none⟩ = some (.string a0_2) := (blk_cell BK156.out 2).trans rfl
                have hfz58_0 := blk_frozen BK156.out 0
                have hfz58_1 := blk_frozen BK156.out 1
                have hfz58_2 := blk_frozen BK156.out 2
                go_wp2
                go_meet
                case rel => exact ⟨_, ((a0_1 == 0)), (by first | rfl | (simp; done) | (simp [*]; done)), H', ⟨by first | omega | exact Nat.le_refl _⟩, ⟨by (with_reducible repeat (first | refine blk_drewN ?_ _ | refine blk_drew ?_ | refine blk_alloc ?_ _)); exact BK156.out⟩, ⟨by repeat (first | (with_reducible first | exact HB.out | apply below_alloc | apply pw_below_drewN | apply below_drew1 | refine below_set ?_ GE156.out) | exact HB.out)⟩⟩
              · rw [if_neg c57] at H
                have c57b0 : (a0_0 == 3) = false := beq_eq_false_iff_ne.mpr c57
                have c57b1 : (a0_0 != 3) = true := bne_iff_ne.mpr c57
                have H' := Aside0.mk H
                clear H
                have hcz59_0 : w3.cell? ⟨gb156, 0, none⟩ = some (.int .i64 a0_0) := (blk_cell BK156.out 0).trans rfl
                have hcz59_1 : w3.cell? ⟨gb156, 1, none⟩ = some (.int .i64 a0_1) := (blk_cell BK156.out 1).trans rfl
                have hcz59_2 : w3.cell? ⟨gb156, 2, none⟩ = some (.string a0_2) := (blk_cell BK156.out 2).trans rfl
                have hfz59_0 := blk_frozen BK156.out 0
                have hfz59_1 := blk_frozen BK156.out 1
                have hfz59_2 := blk_frozen BK156.out 2
                go_wp2
                go_meet
                case rel => exact ⟨_, (false), (by first | rfl | (simp; done) | (simp [*]; done)), H', ⟨by first | omega | exact Nat.le_refl _⟩, ⟨by (with_reducible repeat (first | refine blk_drewN ?_ _ | refine blk_drew ?_ | refine blk_alloc ?_ _)); exact BK156.out⟩, ⟨by repeat (first | (with_reducible first | exact HB.out | apply below_alloc | apply pw_below_drewN | apply below_drew1 | refine below_set ?_ GE156.out) | exact HB.out)⟩⟩
            · rw [if_neg c56] at H
              have c56b0 : (a0_0 == 2) = false := beq_eq_false_iff_ne.mpr c56
              have c56b1 : (a0_0 != 2) = true := bne_iff_ne.mpr c56
              by_cases c60 : a0_0 = 3
              · rw [if_pos c60] at H
                have c60b0 : (a0_0 == 3) = true := beq_iff_eq.mpr c60
                have c60b1 : (a0_0 != 3) = false := bne_eq_false_iff_eq.mpr c60
                clear c60
                have H' := Aside0.mk H
                clear H
                have hcz61_0 : w3.cell? ⟨gb156, 0, none⟩ = some (.int .i64 a0_0) := (blk_cell BK156.out 0).trans rfl
                have hcz61_1 : w3.cell? ⟨gb156, 1, none⟩ = some (.int .i64 a0_1) := (blk_cell BK156.out 1).trans rfl
                have hcz61_2 : w3.cell? ⟨gb156, 2, none⟩ = some (.string a0_2) := (blk_cell BK156.out 2).trans rfl
                have hfz61_0 := blk_frozen BK156.out 0
                have hfz61_1 := blk_frozen BK156.out 1
                have hfz61_2 := blk_frozen BK156.out 2
                go_wp2
                go_meet
                case rel => exact ⟨_, ((a0_1 == 0)), (by first | rfl | (simp; done) | (simp [*]; done)), H', ⟨by first | omega | exact Nat.le_refl _⟩, ⟨by (with_reducible repeat (first | refine blk_drewN ?_ _ | refine blk_drew ?_ | refine blk_alloc ?_ _)); exact BK156.out⟩, ⟨by repeat (first | (with_reducible first | exact HB.out | apply below_alloc | apply pw_below_drewN | apply below_drew1 | refine below_set ?_ GE156.out) | exact HB.out)⟩⟩
              · rw [if_neg c60] at H
                have c60b0 : (a0_0 == 3) = false := beq_eq_false_iff_ne.mpr c60
                have c60b1 : (a0_0 != 3) = true := bne_iff_ne.mpr c60
                have H' := Aside0.mk H
                clear H
                have hcz62_0 : w3.cell? ⟨gb156, 0, none⟩ = some (.int .i64 a0_0) := (blk_cell BK156.out 0).trans rfl
                have hcz62_1 : w3.cell? ⟨gb156, 1, none⟩ = some (.int .i64 a0_1) := (blk_cell BK156.out 1).trans rfl
                have hcz62_2 : w3.cell? ⟨gb156, 2, none⟩ = some (.string a0_2) := (blk_cell BK156.out 2).trans rfl
                have hfz62_0 := blk_frozen BK156.out 0
                have hfz62_1 := blk_frozen BK156.out 1
                have hfz62_2 := blk_frozen BK156.out 2
                go_wp2
                go_meet
                case rel => exact ⟨_, (false), (by first | rfl | (simp; done) | (simp [*]; done)), H', ⟨by first | omega | exact Nat.le_refl _⟩, ⟨by (with_reducible repeat (first | refine blk_drewN ?_ _ | refine blk_drew ?_ | refine blk_alloc ?_ _)); exact BK156.out⟩, ⟨by repeat (first | (with_reducible first | exact HB.out | apply below_alloc | apply pw_below_drewN | apply below_drew1 | refine below_set ?_ GE156.out) | exact HB.out)⟩⟩
        · rw [if_neg c53] at H
          have c53b0 : (a0_1 == 0) = false := beq_eq_false_iff_ne.mpr c53
          have c53b1 : (a0_1 != 0) = true := bne_iff_ne.mpr c53
          by_cases c63 : a0_1 = 1
          · rw [if_pos c63] at H
            have c63b0 : (a0_1 == 1) = true := beq_iff_eq.mpr c63
            have c63b1 : (a0_1 != 1) = false := bne_eq_false_iff_eq.mpr c63
            clear c63
            by_cases c64 : a0_2.toList = ([] : List UInt8)
            · rw [if_pos c64] at H
              have c64b0 : (a0_2.toList == ([] : List UInt8)) = true := beq_iff_eq.mpr c64
              have c64b1 : (a0_2.toList != ([] : List UInt8)) = false := bne_eq_false_iff_eq.mpr c64
              clear c64
              have H' := Aside0.mk H
              clear H
              have hcz65_0 : w3.cell? ⟨gb156, 0, none⟩ = some (.int .i64 a0_0) := (blk_cell BK156.out 0).trans rfl
              have hcz65_1 : w3.cell? ⟨gb156, 1, none⟩ = some (.int .i64 a0_1) := (blk_cell BK156.out 1).trans rfl
              have hcz65_2 : w3.cell? ⟨gb156, 2, none⟩ = some (.string a0_2) := (blk_cell BK156.out 2).trans rfl
              have hfz65_0 := blk_frozen BK156.out 0
              have hfz65_1 := blk_frozen BK156.out 1
              have hfz65_2 := blk_frozen BK156.out 2
              go_wp2
              go_meet
              case rel => exact ⟨_, (true), (by first | rfl | (simp; done) | (simp [*]; done)), H', ⟨by first | omega | exact Nat.le_refl _⟩, ⟨by (with_reducible repeat (first | refine blk_drewN ?_ _ | refine blk_drew ?_ | refine blk_alloc ?_ _)); exact BK156.out⟩, ⟨by repeat (first | (with_reducible first | exact HB.out | apply below_alloc | apply pw_below_drewN | apply below_drew1 | refine below_set ?_ GE156.out) | exact HB.out)⟩⟩
            · rw [if_neg c64] at H
              have c64b0 : (a0_2.toList == ([] : List UInt8)) = false := beq_eq_false_iff_ne.mpr c64
              have c64b1 : (a0_2.toList != ([] : List UInt8)) = true := bne_iff_ne.mpr c64
              by_cases c66 : a0_0 = 2
              · rw [if_pos c66] at H
                have c66b0 : (a0_0 == 2) = true := beq_iff_eq.mpr c66
                have c66b1 : (a0_0 != 2) = false := bne_eq_false_iff_eq.mpr c66
                clear c66
                by_cases c67 : a0_0 = 3
                · rw [if_pos c67] at H
                  have c67b0 : (a0_0 == 3) = true := beq_iff_eq.mpr c67
                  have c67b1 : (a0_0 != 3) = false := bne_eq_false_iff_eq.mpr c67
                  clear c67
                  have H' := Aside0.mk H
                  clear H
                  have hcz68_0 : w3.cell? ⟨gb156, 0, none⟩ = some (.int .i64 a0_0) := (blk_cell BK156.out 0).trans rfl
                  have hcz68_1 : w3.cell? ⟨gb156, 1, none⟩ = some (.int .i64 a0_1) := (blk_cell BK156.out 1).trans rfl
                  have hcz68_2 : w3.cell? ⟨gb156, 2, none⟩ = some (.string a0_2) := (blk_cell BK156.out 2).trans rfl
                  have hfz68_0 := blk_frozen BK156.out 0
                  have hfz68_1 := blk_frozen BK156.out 1
                  have hfz68_2 := blk_frozen BK156.out 2
                  go_wp2
                  go_meet
                  case rel => exact ⟨_, ((a0_1 == 0)), (by first | rfl | (simp; done) | (simp [*]; done)), H', ⟨by first | omega | exact Nat.le_refl _⟩, ⟨by (with_reducible repeat (first | refine blk_drewN ?_ _ | refine blk_drew ?_ | refine blk_alloc ?_ _)); exact BK156.out⟩, ⟨by repeat (first | (with_reducible first | exact HB.out | apply below_alloc | apply pw_below_drewN | apply below_drew1 | refine below_set ?_ GE156.out) | exact HB.out)⟩⟩
                · rw [if_neg c67] at H
                  have c67b0 : (a0_0 == 3) = false := beq_eq_false_iff_ne.mpr c67
                  have c67b1 : (a0_0 != 3) = true := bne_iff_ne.mpr c67
                  have H' := Aside0.mk H
                  clear H
                  have hcz69_0 : w3.cell? ⟨gb156, 0, none⟩ = some (.int .i64 a0_0) := (blk_cell BK156.out 0).trans rfl
                  have hcz69_1 : w3.cell? ⟨gb156, 1, none⟩ = some (.int .i64 a0_1) := (blk_cell BK156.out 1).trans rfl
                  have hcz69_2 : w3.cell? ⟨gb156, 2, none⟩ = some (.string a0_2) := (blk_cell BK156.out 2).trans rfl
                  have hfz69_0 := blk_frozen BK156.out 0
                  have hfz69_1 := blk_frozen BK156.out 1
                  have hfz69_2 := blk_frozen BK156.out 2
                  go_wp2
                  go_meet
                  case rel => exact ⟨_, (false), (by first | rfl | (simp; done) | (simp [*]; done)), H', ⟨by first | omega | exact Nat.le_refl _⟩, ⟨by (with_reducible repeat (first | refine blk_drewN ?_ _ | refine blk_drew ?_ | refine blk_alloc ?_ _)); exact BK156.out⟩, ⟨by repeat (first | (with_reducible first | exact HB.out | apply below_alloc | apply pw_below_drewN | apply below_drew1 | refine below_set ?_ GE156.out) | exact HB.out)⟩⟩
              · rw [if_neg c66] at H
                have c66b0 : (a0_0 == 2) = false := beq_eq_false_iff_ne.mpr c66
                have c66b1 : (a0_0 != 2) = true := bne_iff_ne.mpr c66
                by_cases c70 : a0_0 = 3
                · rw [if_pos c70] at H
                  have c70b0 : (a0_0 == 3) = true := beq_iff_eq.mpr c70
                  have c70b1 : (a0_0 != 3) = false := bne_eq_false_iff_eq.mpr c70
                  clear c70
                  have H' := Aside0.mk H
                  clear H
                  have hcz71_0 : w3.cell? ⟨gb156, 0, none⟩ = some (.int .i64 a0_0) := (blk_cell BK156.out 0).trans rfl
                  have hcz71_1 : w3.cell? ⟨gb156, 1, none⟩ = some (.int .i64 a0_1) := (blk_cell BK156.out 1).trans rfl
                  have hcz71_2 : w3.cell? ⟨gb156, 2, none⟩ = some (.string a0_2) := (blk_cell BK156.out 2).trans rfl
                  have hfz71_0 := blk_frozen BK156.out 0
                  have hfz71_1 := blk_frozen BK156.out 1
                  have hfz71_2 := blk_frozen BK156.out 2
                  go_wp2
                  go_meet
                  case rel => exact ⟨_, ((a0_1 == 0)), (by first | rfl | (simp; done) | (simp [*]; done)), H', ⟨by first | omega | exact Nat.le_refl _⟩, ⟨by (with_reducible repeat (first | refine blk_drewN ?_ _ | refine blk_drew ?_ | refine blk_alloc ?_ _)); exact BK156.out⟩, ⟨by repeat (first | (with_reducible first | exact HB.out | apply below_alloc | apply pw_below_drewN | apply below_drew1 | refine below_set ?_ GE156.out) | exact HB.out)⟩⟩
                · rw [if_neg c70] at H
                  have c70b0 : (a0_0 == 3) = false := beq_eq_false_iff_ne.mpr c70
                  have c70b1 : (a0_0 != 3) = true := bne_iff_ne.mpr c70
                  have H' := Aside0.mk H
                  clear H
                  have hcz72_0 : w3.cell? ⟨gb156, 0, none⟩ = some (.int .i64 a0_0) := (blk_cell BK156.out 0).trans rfl
                  have hcz72_1 : w3.cell? ⟨gb156, 1, none⟩ = some (.int .i64 a0_1) := (blk_cell BK156.out 1).trans rfl
                  have hcz72_2 : w3.cell? ⟨gb156, 2, none⟩ = some (.string a0_2) := (blk_cell BK156.out 2).trans rfl
                  have hfz72_0 := blk_frozen BK156.out 0
                  have hfz72_1 := blk_frozen BK156.out 1
                  have hfz72_2 := blk_frozen BK156.out 2
                  go_wp2
                  go_meet
                  case rel => exact ⟨_, (false), (by first | rfl | (simp; done) | (simp [*]; done)), H', ⟨by first | omega | exact Nat.le_refl _⟩, ⟨by (with_reducible repeat (first | refine blk_drewN ?_ _ | refine blk_drew ?_ | refine blk_alloc ?_ _)); exact BK156.out⟩, ⟨by repeat (first | (with_reducible first | exact HB.out | apply below_alloc | apply pw_below_drewN | apply below_drew1 | refine below_set ?_ GE156.out) | exact HB.out)⟩⟩
          · rw [if_neg c63] at H
            have c63b0 : (a0_1 == 1) = false := beq_eq_false_iff_ne.mpr c63
            have c63b1 : (a0_1 != 1) = true := bne_iff_ne.mpr c63
            by_cases c73 : a0_0 = 2
            · rw [if_pos c73] at H
              have c73b0 : (a0_0 == 2) = true := beq_iff_eq.mpr c73
              have c73b1 : (a0_0 != 2) = false := bne_eq_false_iff_eq.mpr c73
              clear c73
              by_cases c74 : a0_2.toList = ([] : List UInt8)
              · rw [if_pos c74] at H
                have c74b0 : (a0_2.toList == ([] : List UInt8)) = true := beq_iff_eq.mpr c74
                have c74b1 : (a0_2.toList != ([] : List UInt8)) = false := bne_eq_false_iff_eq.mpr c74
                clear c74
                have H' := Aside0.mk H
                clear H
                have hcz75_0 : w3.cell? ⟨gb156, 0, none⟩ = some (.int .i64 a0_0) := (blk_cell BK156.out 0).trans rfl
                have hcz75_1 : w3.cell? ⟨gb156, 1, none⟩ = some (.int .i64 a0_1) := (blk_cell BK156.out 1).trans rfl
                have hcz75_2 : w3.cell? ⟨gb156, 2, none⟩ = some (.string a0_2) := (blk_cell BK156.out 2).trans rfl
                have hfz75_0 := blk_frozen BK156.out 0
                have hfz75_1 := blk_frozen BK156.out 1
                have hfz75_2 := blk_frozen BK156.out 2
                go_wp2
                go_meet
                case rel => exact ⟨_, (true), (by first | rfl | (simp; done) | (simp [*]; done)), H', ⟨by first | omega | exact Nat.le_refl _⟩, ⟨by (with_reducible repeat (first | refine blk_drewN ?_ _ | refine blk_drew ?_ | refine blk_alloc ?_ _)); exact BK156.out⟩, ⟨by repeat (first | (with_reducible first | exact HB.out | apply below_alloc | apply pw_below_drewN | apply below_drew1 | refine below_set ?_ GE156.out) | exact HB.out)⟩⟩
              · rw [if_neg c74] at H
                have c74b0 : (a0_2.toList == ([] : List UInt8)) = false := beq_eq_false_iff_ne.mpr c74
                have c74b1 : (a0_2.toList != ([] : List UInt8)) = true := bne_iff_ne.mpr c74
                by_cases c76 : a0_0 = 3
                · rw [if_pos c76] at H
                  have c76b0 : (a0_0 == 3) = true := beq_iff_eq.mpr c76
                  have c76b1 : (a0_0 != 3) = false := bne_eq_false_iff_eq.mpr c76
                  clear c76
                  have H' := Aside0.mk H
                  clear H
                  have hcz77_0 : w3.cell? ⟨gb156, 0, none⟩ = some (.int .i64 a0_0) := (blk_cell BK156.out 0).trans rfl
                  have hcz77_1 : w3.cell? ⟨gb156, 1, none⟩ = some (.int .i64 a0_1) := (blk_cell BK156.out 1).trans rfl
                  have hcz77_2 : w3.cell? ⟨gb156, 2, none⟩ = some (.string a0_2) := (blk_cell BK156.out 2).trans rfl
                  have hfz77_0 := blk_frozen BK156.out 0
                  have hfz77_1 := blk_frozen BK156.out 1
                  have hfz77_2 := blk_frozen BK156.out 2
                  go_wp2
                  go_meet
                  case rel => exact ⟨_, ((a0_1 == 0)), (by first | rfl | (simp; done) | (simp [*]; done)), H', ⟨by first | omega | exact Nat.le_refl _⟩, ⟨by (with_reducible repeat (first | refine blk_drewN ?_ _ | refine blk_drew ?_ | refine blk_alloc ?_ _)); exact BK156.out⟩, ⟨by repeat (first | (with_reducible first | exact HB.out | apply below_alloc | apply pw_below_drewN | apply below_drew1 | refine below_set ?_ GE156.out) | exact HB.out)⟩⟩
                · rw [if_neg c76] at H
                  have c76b0 : (a0_0 == 3) = false := beq_eq_false_iff_ne.mpr c76
                  have c76b1 : (a0_0 != 3) = true := bne_iff_ne.mpr c76
                  have H' := Aside0.mk H
                  clear H
                  have hcz78_0 : w3.cell? ⟨gb156, 0, none⟩ = some (.int .i64 a0_0) := (blk_cell BK156.out 0).trans rfl
                  have hcz78_1 : w3.cell? ⟨gb156, 1, none⟩ = some (.int .i64 a0_1) := (blk_cell BK156.out 1).trans rfl
                  have hcz78_2 : w3.cell? ⟨gb156, 2, none⟩ = some (.string a0_2) := (blk_cell BK156.out 2).trans rfl
                  have hfz78_0 := blk_frozen BK156.out 0
                  have hfz78_1 := blk_frozen BK156.out 1
                  have hfz78_2 := blk_frozen BK156.out 2
                  go_wp2
                  go_meet
                  case rel => exact ⟨_, (false), (by first | rfl | (simp; done) | (simp [*]; done)), H', ⟨by first | omega | exact Nat.le_refl _⟩, ⟨by (with_reducible repeat (first | refine blk_drewN ?_ _ | refine blk_drew ?_ | refine blk_alloc ?_ _)); exact BK156.out⟩, ⟨by repeat (first | (with_reducible first | exact HB.out | apply below_alloc | apply pw_below_drewN | apply below_drew1 | refine below_set ?_ GE156.out) | exact HB.out)⟩⟩
            · rw [if_neg c73] at H
              have c73b0 : (a0_0 == 2) = false := beq_eq_false_iff_ne.mpr c73
              have c73b1 : (a0_0 != 2) = true := bne_iff_ne.mpr c73
              by_cases c79 : a0_0 = 3
              · rw [if_pos c79] at H
                have c79b0 : (a0_0 == 3) = true := beq_iff_eq.mpr c79
                have c79b1 : (a0_0 != 3) = false := bne_eq_false_iff_eq.mpr c79
                clear c79
                have H' := Aside0.mk H
                clear H
                have hcz80_0 : w3.cell? ⟨gb156, 0, none⟩ = some (.int .i64 a0_0) := (blk_cell BK156.out 0).trans rfl
                have hcz80_1 : w3.cell? ⟨gb156, 1, none⟩ = some (.int .i64 a0_1) := (blk_cell BK156.out 1).trans rfl
                have hcz80_2 : w3.cell? ⟨gb156, 2, none⟩ = some (.string a0_2) := (blk_cell BK156.out 2).trans rfl
                have hfz80_0 := blk_frozen BK156.out 0
                have hfz80_1 := blk_frozen BK156.out 1
                have hfz80_2 := blk_frozen BK156.out 2
                go_wp2
                go_meet
                case rel => exact ⟨_, ((a0_1 == 0)), (by first | rfl | (simp; done) | (simp [*]; done)), H', ⟨by first | omega | exact Nat.le_refl _⟩, ⟨by (with_reducible repeat (first | refine blk_drewN ?_ _ | refine blk_drew ?_ | refine blk_alloc ?_ _)); exact BK156.out⟩, ⟨by repeat (first | (with_reducible first | exact HB.out | apply below_alloc | apply pw_below_drewN | apply below_drew1 | refine below_set ?_ GE156.out) | exact HB.out)⟩⟩
              · rw [if_neg c79] at H
                have c79b0 : (a0_0 == 3) = false := beq_eq_false_iff_ne.mpr c79
                have c79b1 : (a0_0 != 3) = true := bne_iff_ne.mpr c79
                have H' := Aside0.mk H
                clear H
                have hcz81_0 : w3.cell? ⟨gb156, 0, none⟩ = some (.int .i64 a0_0) := (blk_cell BK156.out 0).trans rfl
                have hcz81_1 : w3.cell? ⟨gb156, 1, none⟩ = some (.int .i64 a0_1) := (blk_cell BK156.out 1).trans rfl
                have hcz81_2 : w3.cell? ⟨gb156, 2, none⟩ = some (.string a0_2) := (blk_cell BK156.out 2).trans rfl
                have hfz81_0 := blk_frozen BK156.out 0
                have hfz81_1 := blk_frozen BK156.out 1
                have hfz81_2 := blk_frozen BK156.out 2
                go_wp2
                go_meet
                case rel => exact ⟨_, (false), (by first | rfl | (simp; done) | (simp [*]; done)), H', ⟨by first | omega | exact Nat.le_refl _⟩, ⟨by (with_reducible repeat (first | refine blk_drewN ?_ _ | refine blk_drew ?_ | refine blk_alloc ?_ _)); exact BK156.out⟩, ⟨by repeat (first | (with_reducible first | exact HB.out | apply below_alloc | apply pw_below_drewN | apply below_drew1 | refine below_set ?_ GE156.out) | exact HB.out)⟩⟩
      · rw [if_neg c52] at H
        have c52b0 : (a0_0 == 1) = false := beq_eq_false_iff_ne.mpr c52
        have c52b1 : (a0_0 != 1) = true := bne_iff_ne.mpr c52
        by_cases c82 : a0_0 = 2
        · rw [if_pos c82] at H
          have c82b0 : (a0_0 == 2) = true := beq_iff_eq.mpr c82
          have c82b1 : (a0_0 != 2) = false := bne_eq_false_iff_eq.mpr c82
          clear c82
          by_cases c83 : a0_2.toList = ([] : List UInt8)
          · rw [if_pos c83] at H
            have c83b0 : (a0_2.toList == ([] : List UInt8)) = true := beq_iff_eq.mpr c83
            have c83b1 : (a0_2.toList != ([] : List UInt8)) = false := bne_eq_false_iff_eq.mpr c83
            clear c83
            have H' := Aside0.mk H
            clear H
            have hcz84_0 : w3.cell? ⟨gb156, 0, none⟩ = some (.int .i64 a0_0) := (blk_cell BK156.out 0).trans rfl
            have hcz84_1 : w3.cell? ⟨gb156, 1, none⟩ = some (.int .i64 a0_1) := (blk_cell BK156.out 1).trans rfl
            have hcz84_2 : w3.cell? ⟨gb156, 2, none⟩ = some (.string a0_2) := (blk_cell BK156.out 2).trans rfl
            have hfz84_0 := blk_frozen BK156.out 0
            have hfz84_1 := blk_frozen BK156.out 1
            have hfz84_2 := blk_frozen BK156.out 2
            go_wp2
            go_meet
            case rel => exact ⟨_, (true), (by first | rfl | (simp; done) | (simp [*]; done)), H', ⟨by first | omega | exact Nat.le_refl _⟩, ⟨by (with_reducible repeat (first | refine blk_drewN ?_ _ | refine blk_drew ?_ | refine blk_alloc ?_ _)); exact BK156.out⟩, ⟨by repeat (first | (with_reducible first | exact HB.out | apply below_alloc | apply pw_below_drewN | apply below_drew1 | refine below_set ?_ GE156.out) | exact HB.out)⟩⟩
          · rw [if_neg c83] at H
            have c83b0 : (a0_2.toList == ([] : List UInt8)) = false := beq_eq_false_iff_ne.mpr c83
            have c83b1 : (a0_2.toList != ([] : List UInt8)) = true := bne_iff_ne.mpr c83
            by_cases c85 : a0_0 = 3
            · rw [if_pos c85] at H
              have c85b0 : (a0_0 == 3) = true := beq_iff_eq.mpr c85
              have c85b1 : (a0_0 != 3) = false := bne_eq_false_iff_eq.mpr c85
              clear c85
              have H' := Aside0.mk H
              clear H
              have hcz86_0 : w3.cell? ⟨gb156, 0, none⟩ = some (.int .i64 a0_0) := (blk_cell BK156.out 0).trans rfl
              have hcz86_1 : w3.cell? ⟨gb156, 1, none⟩ = some (.int .i64 a0_1) := (blk_cell BK156.out 1).trans rfl
              have hcz86_2 : w3.cell? ⟨gb156, 2, none⟩ = some (.string a0_2) := (blk_cell BK156.out 2).trans rfl
              have hfz86_0 := blk_frozen BK156.out 0
              have hfz86_1 := blk_frozen BK156.out 1
              have hfz86_2 := blk_frozen BK156.out 2
              go_wp2
              go_meet
              case rel => exact ⟨_, ((a0_1 == 0)), (by first | rfl | (simp; done) | (simp [*]; done)), H', ⟨by first | omega | exact Nat.le_refl _⟩, ⟨by (with_reducible repeat (first | refine blk_drewN ?_ _ | refine blk_drew ?_ | refine blk_alloc ?_ _)); exact BK156.out⟩, ⟨by repeat (first | (with_reducible first | exact HB.out | apply below_alloc | apply pw_below_drewN | apply below_drew1 | refine below_set ?_ GE156.out) | exact HB.out)⟩⟩
            · rw [if_neg c85] at H
              have c85b0 : (a0_0 == 3) = false := beq_eq_false_iff_ne.mpr c85
              have c85b1 : (a0_0 != 3) = true := bne_iff_ne.mpr c85
              have H' := Aside0.mk H
              clear H
              have hcz87_0 : w3.cell? ⟨gb156, 0, none⟩ = some (.int .i64 a0_0) := (blk_cell BK156.out 0).trans rfl
              have hcz87_1 : w3.cell? ⟨gb156, 1, none⟩ = some (.int .i64 a0_1) := (blk_cell BK156.out 1).trans rfl
              have hcz87_2 : w3.cell? ⟨gb156, 2, none⟩ = some (.string a0_2) := (blk_cell BK156.out 2).trans rfl
              have hfz87_0 := blk_frozen BK156.out 0
              have hfz87_1 := blk_frozen BK156.out 1
              have hfz87_2 := blk_frozen BK156.out 2
              go_wp2
              go_meet
              case rel => exact ⟨_, (false), (by first | rfl | (simp; done) | (simp [*]; done)), H', ⟨by first | omega | exact Nat.le_refl _⟩, ⟨by (with_reducible repeat (first | refine blk_drewN ?_ _ | refine blk_drew ?_ | refine blk_alloc ?_ _)); exact BK156.out⟩, ⟨by repeat (first | (with_reducible first | exact HB.out | apply below_alloc | apply pw_below_drewN | apply below_drew1 | refine below_set ?_ GE156.out) | exact HB.out)⟩⟩
        · rw [if_neg c82] at H
          have c82b0 : (a0_0 == 2) = false := beq_eq_false_iff_ne.mpr c82
          have c82b1 : (a0_0 != 2) = true := bne_iff_ne.mpr c82
          by_cases c88 : a0_0 = 3
          · rw [if_pos c88] at H
            have c88b0 : (a0_0 == 3) = true := beq_iff_eq.mpr c88
            have c88b1 : (a0_0 != 3) = false := bne_eq_false_iff_eq.mpr c88
            clear c88
            have H' := Aside0.mk H
            clear H
            have hcz89_0 : w3.cell? ⟨gb156, 0, none⟩ = some (.int .i64 a0_0) := (blk_cell BK156.out 0).trans rfl
            have hcz89_1 : w3.cell? ⟨gb156, 1, none⟩ = some (.int .i64 a0_1) := (blk_cell BK156.out 1).trans rfl
            have hcz89_2 : w3.cell? ⟨gb156, 2, none⟩ = some (.string a0_2) := (blk_cell BK156.out 2).trans rfl
            have hfz89_0 := blk_frozen BK156.out 0
            have hfz89_1 := blk_frozen BK156.out 1
            have hfz89_2 := blk_frozen BK156.out 2
            go_wp2
            go_meet
            case rel => exact ⟨_, ((a0_1 == 0)), (by first | rfl | (simp; done) | (simp [*]; done)), H', ⟨by first | omega | exact Nat.le_refl _⟩, ⟨by (with_reducible repeat (first | refine blk_drewN ?_ _ | refine blk_drew ?_ | refine blk_alloc ?_ _)); exact BK156.out⟩, ⟨by repeat (first | (with_reducible first | exact HB.out | apply below_alloc | apply pw_below_drewN | apply below_drew1 | refine below_set ?_ GE156.out) | exact HB.out)⟩⟩
          · rw [if_neg c88] at H
            have c88b0 : (a0_0 == 3) = false := beq_eq_false_iff_ne.mpr c88
            have c88b1 : (a0_0 != 3) = true := bne_iff_ne.mpr c88
            have H' := Aside0.mk H
            clear H
            have hcz90_0 : w3.cell? ⟨gb156, 0, none⟩ = some (.int .i64 a0_0) := (blk_cell BK156.out 0).trans rfl
            have hcz90_1 : w3.cell? ⟨gb156, 1, none⟩ = some (.int .i64 a0_1) := (blk_cell BK156.out 1).trans rfl
            have hcz90_2 : w3.cell? ⟨gb156, 2, none⟩ = some (.string a0_2) := (blk_cell BK156.out 2).trans rfl
            have hfz90_0 := blk_frozen BK156.out 0
            have hfz90_1 := blk_frozen BK156.out 1
            have hfz90_2 := blk_frozen BK156.out 2
            go_wp2
            go_meet
            case rel => exact ⟨_, (false), (by first | rfl | (simp; done) | (simp [*]; done)), H', ⟨by first | omega | exact Nat.le_refl _⟩, ⟨by (with_reducible repeat (first | refine blk_drewN ?_ _ | refine blk_drew ?_ | refine blk_alloc ?_ _)); exact BK156.out⟩, ⟨by repeat (first | (with_reducible first | exact HB.out | apply below_alloc | apply pw_below_drewN | apply below_drew1 | refine below_set ?_ GE156.out) | exact HB.out)⟩⟩
  case rest =>
    clear HC2
    try clear c2
    try clear p2
    try clear c3
    try clear c4
    try clear c4b0
    try clear c4b1
    try clear c5
    try clear c6
    try clear c7
    try clear c8
    try clear c23
    try clear c23b0
    try clear c23b1
    try clear c24
    try clear c24b0
    try clear c24b1
    try clear c27
    try clear c27b0
    try clear c27b1
    try clear c31
    try clear c31b0
    try clear c31b1
    try clear c34
    try clear c34b0
    try clear c34b1
    try clear c35
    try clear c35b0
    try clear c35b1
    try clear c37
    try clear c37b0
    try clear c37b1
    try clear c40
    try clear c40b0
    try clear c40b1
    try clear c43
    try clear c43b0
    try clear c43b1
    try clear c44
    try clear c44b0
    try clear c44b1
    try clear c46
    try clear c46b0
    try clear c46b1
    try clear c49
    try clear c49b0
    try clear c49b1
    try clear c52
    try clear c52b0
    try clear c52b1
    try clear c53
    try clear c53b0
    try clear c53b1
    try clear c54
    try clear c54b0
    try clear c54b1
    try clear c56
    try clear c56b0
    try clear c56b1
    try clear c57
    try clear c57b0
    try clear c57b1
    try clear c60
    try clear c60b0
    try clear c60b1
    try clear c63
    try clear c63b0
    try clear c63b1
    try clear c64
    try clear c64b0
    try clear c64b1
    try clear c66
    try clear c66b0
    try clear c66b1
    try clear c67
    try clear c67b0
    try clear c67b1
    try clear c70
    try clear c70b0
    try clear c70b1
    try clear c73
    try clear c73b0
    try clear c73b1
    try clear c74
    try clear c74b0
    try clear c74b1
    try clear c76
    try clear c76b0
    try clear c76b1
    try clear c79
    try clear c79b0
    try clear c79b1
    try clear c82
    try clear c82b0
    try clear c82b1
    try clear c83
    try clear c83b0
    try clear c83b1
    try clear c85
    try clear c85b0
    try clear c85b1
    try clear c88
    try clear c88b0
    try clear c88b1
    try clear hcz30_0
    try clear hcz30_1
    try clear hcz30_2
    try clear hcz32_0
    try clear hcz32_1
    try clear hcz32_2
    try clear hcz33_0
    try clear hcz33_1
    try clear hcz33_2
    try clear hcz36_0
    try clear hcz36_1
    try clear hcz36_2
    try clear hcz38_0
    try clear hcz38_1
    try clear hcz38_2
    try clear hcz39_0
    try clear hcz39_1
    try clear hcz39_2
    try clear hcz41_0
    try clear hcz41_1
    try clear hcz41_2
    try clear hcz42_0
    try clear hcz42_1
    try clear hcz42_2
    try clear hcz45_0
    try clear hcz45_1
    try clear hcz45_2
    try clear hcz47_0
    try clear hcz47_1
    try clear hcz47_2
    try clear hcz48_0
    try clear hcz48_1
    try clear hcz48_2
    try clear hcz50_0
    try clear hcz50_1
    try clear hcz50_2
    try clear hcz51_0
    try clear hcz51_1
    try clear hcz51_2
    try clear hcz55_0
    try clear hcz55_1
    try clear hcz55_2
    try clear hcz58_0
    try clear hcz58_1
    try clear hcz58_2
    try clear hcz59_0
    try clear hcz59_1
    try clear hcz59_2
    try clear hcz61_0
    try clear hcz61_1
    try clear hcz61_2
    try clear hcz62_0
    try clear hcz62_1
    try clear hcz62_2
    try clear hcz65_0
    try clear hcz65_1
    try clear hcz65_2
    try clear hcz68_0
    try clear hcz68_1
    try clear hcz68_2
    try clear hcz69_0
    try clear hcz69_1
    try clear hcz69_2
    try clear hcz71_0
    try clear hcz71_1
    try clear hcz71_2
    try clear hcz72_0
    try clear hcz72_1
    try clear hcz72_2
    try clear hcz75_0
    try clear hcz75_1
    try clear hcz75_2
    try clear hcz77_0
    try clear hcz77_1
    try clear hcz77_2
    try clear hcz78_0
    try clear hcz78_1
    try clear hcz78_2
    try clear hcz80_0
    try clear hcz80_1
    try clear hcz80_2
    try clear hcz81_0
    try clear hcz81_1
    try clear hcz81_2
    try clear hcz84_0
    try clear hcz84_1
    try clear hcz84_2
    try clear hcz86_0
    try clear hcz86_1
    try clear hcz86_2
    try clear hcz87_0
    try clear hcz87_1
    try clear hcz87_2
    try clear hcz89_0
    try clear hcz89_1
    try clear hcz89_2
    try clear hcz90_0
    try clear hcz90_1
    try clear hcz90_2
    try clear hfz30_0
    try clear hfz30_1
    try clear hfz30_2
    try clear hfz32_0
    try clear hfz32_1
    try clear hfz32_2
    try clear hfz33_0
    try clear hfz33_1
    try clear hfz33_2
    try clear hfz36_0
    try clear hfz36_1
    try clear hfz36_2
    try clear hfz38_0
    try clear hfz38_1
    try clear hfz38_2
    try clear hfz39_0
    try clear hfz39_1
    try clear hfz39_2
    try clear hfz41_0
    try clear hfz41_1
    try clear hfz41_2
    try clear hfz42_0
    try clear hfz42_1
    try clear hfz42_2
    try clear hfz45_0
    try clear hfz45_1
    try clear hfz45_2
    try clear hfz47_0
    try clear hfz47_1
    try clear hfz47_2
    try clear hfz48_0
    try clear hfz48_1
    try clear hfz48_2
    try clear hfz50_0
    try clear hfz50_1
    try clear hfz50_2
    try clear hfz51_0
    try clear hfz51_1
    try clear hfz51_2
    try clear hfz55_0
    try clear hfz55_1
    try clear hfz55_2
    try clear hfz58_0
    try clear hfz58_1
    try clear hfz58_2
    try clear hfz59_0
    try clear hfz59_1
    try clear hfz59_2
    try clear hfz61_0
    try clear hfz61_1
    try clear hfz61_2
    try clear hfz62_0
    try clear hfz62_1
    try clear hfz62_2
    try clear hfz65_0
    try clear hfz65_1
    try clear hfz65_2
    try clear hfz68_0
    try clear hfz68_1
    try clear hfz68_2
    try clear hfz69_0
    try clear hfz69_1
    try clear hfz69_2
    try clear hfz71_0
    try clear hfz71_1
    try clear hfz71_2
    try clear hfz72_0
    try clear hfz72_1
    try clear hfz72_2
    try clear hfz75_0
    try clear hfz75_1
    try clear hfz75_2
    try clear hfz77_0
    try clear hfz77_1
    try clear hfz77_2
    try clear hfz78_0
    try clear hfz78_1
    try clear hfz78_2
    try clear hfz80_0
    try clear hfz80_1
    try clear hfz80_2
    try clear hfz81_0
    try clear hfz81_1
    try clear hfz81_2
    try clear hfz84_0
    try clear hfz84_1
    try clear hfz84_2
    try clear hfz86_0
    try clear hfz86_1
    try clear hfz86_2
    try clear hfz87_0
    try clear hfz87_1
    try clear hfz87_2
    try clear hfz89_0
    try clear hfz89_1
    try clear hfz89_2
    try clear hfz90_0
    try clear hfz90_1
    try clear hfz90_2
    obtain ⟨kq, x3_1, rfl, HA, HJ1, BK156, HB⟩ := hcut
    cases kq with
    | zero => exact absurd HA.out (by simp [cordonref01_Right.j0])
    | succ kj1 =>
      have H := HA.out
      clear HA
      simp only [cordonref01_Right.j0] at H
      by_cases c91 : x3_1 = true
      · subst c91
        have H1 : (if a0_0 = 3 then (if (a0_2.size : Int) > 1000 then (some 8) else (some 0)) else (some 0)) = some r := by rw [if_pos rfl] at H; exact H
        clear H
        have H := H1
        clear H1
        by_cases c92 : a0_0 = 3
        · rw [if_pos c92] at H
          have c92b0 : (a0_0 == 3) = true := beq_iff_eq.mpr c92
          have c92b1 : (a0_0 != 3) = false := bne_eq_false_iff_eq.mpr c92
          clear c92
          by_cases c93 : (a0_2.size : Int) > 1000
          · rw [if_pos c93] at H
            have c93b0 : decide (1000 < (a0_2.size : Int)) = true := decide_eq_true c93
            have c93b1 : decide (1000 < a0_2.size) = true := decide_eq_true (by omega)
            clear c93
            obtain rfl := Option.some.inj H
            have hcz94_0 : wc.cell? ⟨gb156, 0, none⟩ = some (.int .i64 a0_0) := (blk_cell BK156.out 0).trans rfl
            have hcz94_1 : wc.cell? ⟨gb156, 1, none⟩ = some (.int .i64 a0_1) := (blk_cell BK156.out 1).trans rfl
            have hcz94_2 : wc.cell? ⟨gb156, 2, none⟩ = some (.string a0_2) := (blk_cell BK156.out 2).trans rfl
            have hfz94_0 := blk_frozen BK156.out 0
            have hfz94_1 := blk_frozen BK156.out 1
            have hfz94_2 := blk_frozen BK156.out 2
            go_wp2
            go_ret
            exact ⟨by first | rfl | (simp [errW_none, errW_some] <;> rfl) | (simp [*, errW_none, errW_some] <;> rfl), by repeat (first | (with_reducible first | exact HB.out | apply below_alloc | apply pw_below_drewN | apply below_drew1 | refine below_set ?_ GE156.out) | exact HB.out)⟩
          · rw [if_neg c93] at H
            have c93b0 : decide (1000 < (a0_2.size : Int)) = false := decide_eq_false c93
            have c93b1 : decide (1000 < a0_2.size) = false := decide_eq_false (by omega)
            clear c93
            obtain rfl := Option.some.inj H
            have hcz95_0 : wc.cell? ⟨gb156, 0, none⟩ = some (.int .i64 a0_0) := (blk_cell BK156.out 0).trans rfl
            have hcz95_1 : wc.cell? ⟨gb156, 1, none⟩ = some (.int .i64 a0_1) := (blk_cell BK156.out 1).trans rfl
            have hcz95_2 : wc.cell? ⟨gb156, 2, none⟩ = some (.string a0_2) := (blk_cell BK156.out 2).trans rfl
            have hfz95_0 := blk_frozen BK156.out 0
            have hfz95_1 := blk_frozen BK156.out 1
            have hfz95_2 := blk_frozen BK156.out 2
            go_wp2
            go_ret
            exact ⟨by first | rfl | (simp [errW_none, errW_some] <;> rfl) | (simp [*, errW_none, errW_some] <;> rfl), by repeat (first | (with_reducible first | exact HB.out | apply below_alloc | apply pw_below_drewN | apply below_drew1 | refine below_set ?_ GE156.out) | exact HB.out)⟩
        · rw [if_neg c92] at H
          have c92b0 : (a0_0 == 3) = false := beq_eq_false_iff_ne.mpr c92
          have c92b1 : (a0_0 != 3) = true := bne_iff_ne.mpr c92
          obtain rfl := Option.some.inj H
          have hcz96_0 : wc.cell? ⟨gb156, 0, none⟩ = some (.int .i64 a0_0) := (blk_cell BK156.out 0).trans rfl
          have hcz96_1 : wc.cell? ⟨gb156, 1, none⟩ = some (.int .i64 a0_1) := (blk_cell BK156.out 1).trans rfl
          have hcz96_2 : wc.cell? ⟨gb156, 2, none⟩ = some (.string a0_2) := (blk_cell BK156.out 2).trans rfl
          have hfz96_0 := blk_frozen BK156.out 0
          have hfz96_1 := blk_frozen BK156.out 1
          have hfz96_2 := blk_frozen BK156.out 2
          go_wp2
          go_ret
          exact ⟨by first | rfl | (simp [errW_none, errW_some] <;> rfl) | (simp [*, errW_none, errW_some] <;> rfl), by repeat (first | (with_reducible first | exact HB.out | apply below_alloc | apply pw_below_drewN | apply below_drew1 | refine below_set ?_ GE156.out) | exact HB.out)⟩
      · replace c91 := Bool.eq_false_iff.mpr c91
        subst c91
        have H1 : (some 2) = some r := by rw [if_neg (show ¬ (false = true) by decide)] at H; exact H
        clear H
        have H := H1
        clear H1
        obtain rfl := Option.some.inj H
        go_wp2
        go_ret
        exact ⟨by first | rfl | (simp [errW_none, errW_some] <;> rfl) | (simp [*, errW_none, errW_some] <;> rfl), by repeat (first | (with_reducible first | exact HB.out | apply below_alloc | apply pw_below_drewN | apply below_drew1 | refine below_set ?_ GE156.out) | exact HB.out)⟩

end Go.Proofs.Ythghflgmeepnlaa.Pa
