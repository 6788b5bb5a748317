/- What RowsJoins hangs on, part 2 of 4: our texts put together by trim.py, without what the proof does not need. -/
import Derived.Test.YthghflgmeepnlaaZJ1
import Derived.Deep.Slices
import Derived.Deep.Strs
import Derived.Laws.BitsAllLaws
import Derived.Maps.Own
import Derived.Maps.OwnOps
import Derived.Maps.Views
import Derived.Maps.OwnSet
import Derived.WalkLawsBesides
section
namespace Go.Proofs.Ythghflgmeepnlaa.Pa
open Go.RowKit Go.Proofs.YthghflgmeepnlaaW.PrintWords Go.Proofs.YthghflgmeepnlaaW.PrintLast Go.Proofs.YthghflgmeepnlaaW.PrintMore
attribute [local go_sem] max2_int max_two
set_option linter.unusedVariables false
set_option linter.unusedSimpArgs false
attribute [local go_sem high] eqA33
def cordonref02_Same.l0 : Nat → List (S33) → List (S33) → Int → Option (Bool)
  | 0, _, _, _ => none
  | k + 1, x0, x1, x5 => if x5 < (x0.length : Int) then (if 0 ≤ x5 then (if x5 < (x1.length : Int) then (if (!(((rd_T33 x0 x5).f0) == ((rd_T33 x1 x5).f0)) || (!(((rd_T33 x0 x5).f1) == ((rd_T33 x1 x5).f1)) || (!((((rd_T33 x0 x5).f2).toList) == (((rd_T33 x1 x5).f2).toList))))) = true then (some false) else (cordonref02_Same.l0 k x0 x1 (wrap64 (x5 + 1)))) else (none)) else (none)) else (some true)
def cordonref02_Same.f (k : Nat) (l0 : List (S33)) (l1 : List (S33)) : Option (Bool) := if (l0.length : Int) = (l1.length : Int) then (cordonref02_Same.l0 k l0 l1 0) else (some false)
theorem cordonref02_Same.mono_l : ∀ k, (∀ y0 y1 y2, LeO (cordonref02_Same.l0 k y0 y1 y2) (cordonref02_Same.l0 (k + 1) y0 y1 y2))
  | 0 => fun _ _ _ r h => by simp [cordonref02_Same.l0] at h
  | k + 1 => by
    have ih0 := cordonref02_Same.mono_l k
    · intro y0 y1 y2
      unfold cordonref02_Same.l0
      repeat' first
      | (with_reducible exact ih0 _ _ _)
      | (with_reducible exact LeO.refl _)
      | (with_reducible exact LeO.none _)
      | (with_reducible refine LeO.ite ?_ ?_)
      | (with_reducible refine LeO.bind ?_ (fun _ => ?_))
      | exact ih0 _ _ _
      | exact LeO.none _
      | refine LeO.ite ?_ ?_
      | refine LeO.bind ?_ (fun _ => ?_)
theorem cordonref02_Same.mono : ∀ a0 a1 k, LeO (cordonref02_Same.f k a0 a1) (cordonref02_Same.f (k + 1) a0 a1) := by
  intro a0 a1 k
  have ih0 := cordonref02_Same.mono_l k
  unfold cordonref02_Same.f
  repeat' first
      | (with_reducible exact ih0 _ _ _)
      | (with_reducible exact LeO.refl _)
      | (with_reducible exact LeO.none _)
      | (with_reducible refine LeO.ite ?_ ?_)
      | (with_reducible refine LeO.bind ?_ (fun _ => ?_))
      | exact ih0 _ _ _
      | exact LeO.none _
      | refine LeO.ite ?_ ?_
      | refine LeO.bind ?_ (fun _ => ?_)
set_option maxHeartbeats 8000000 in
set_option maxRecDepth 100000 in
theorem cordonref02_Same.calls (k : Nat) (A0 : Option Addr) (c0 : Nat) (l0 : List (S33)) (A1 : Option Addr) (c1 : Nat) (l1 : List (S33)) (r : Bool) (w : World) (hr0 : Kd.C k33 w A0 l0.length l0) (hc0 : l0.length ≤ c0) (hr1 : Kd.C k33 w A1 l1.length l1) (hc1 : l1.length ≤ c1) (h : cordonref02_Same.f k l0 l1 = some r) :
    Calls Try.prog 49 #[.slice A0 l0.length c0, .slice A1 l1.length c1] w fun e w' => e = .returned (.bool r) ∧ Drawn0 w w' := by
  have hu33 := Try.underlying33
  have HR0 := Aside0.mk hr0
  have HC0 := Aside0.mk hc0
  clear hr0 hc0
  have HR1 := Aside0.mk hr1
  have HC1 := Aside0.mk hc1
  clear hr1 hc1
  have H : (if (l0.length : Int) = (l1.length : Int) then (cordonref02_Same.l0 k l0 l1 0) else (some false)) = some r := h
  clear h
  by_cases c3 : (l0.length : Int) = (l1.length : Int)
  · rw [if_pos c3] at H
    have c3b0 : ((l0.length : Int) == (l1.length : Int)) = true := beq_iff_eq.mpr c3
    have c3b1 : ((l0.length : Int) != (l1.length : Int)) = false := bne_eq_false_iff_eq.mpr c3
    have c3b2 : (l0.length == l1.length) = true := by first | simpa using c3 | (simp at c3 ⊢; omega)
    clear c3
    have H' := Aside0.mk H
    clear H
    go_enter Try.func49, Try.ntmps49
    go_wp2
    repeat (go_quiet (fail); try go_wp2)
    go_loopg [5] k (fun kq v5 w' => ∃ (x5_1 : Int), v5 = .int .i64 x5_1 ∧ Aside0 (cordonref02_Same.l0 kq l0 l1 x5_1 = some r) ∧ Aside0 (kq ≤ k) ∧ Drawn0 w w')
    case atStart => exact ⟨(0), (by first | rfl | (simp; done) | (simp [*]; done)), H', ⟨Nat.le_refl _⟩, by repeat (first | exact Drawn0.refl _ | apply Drawn0.step)⟩
    case round =>
      clear H'
      try clear c1
      try clear p2
      try clear c3
      try clear c3b0
      try clear c3b1
      try clear c3b2
      obtain ⟨x5_1, rfl, HA, HK1, ⟨m1, rfl⟩⟩ := hrel
      cases gk with
      | zero => exact absurd HA.out (by simp [cordonref02_Same.l0])
      | succ k1 =>
        have H := HA.out
        clear HA
        simp only [cordonref02_Same.l0] at H
        by_cases c4 : x5_1 < (l0.length : Int)
        · rw [if_pos c4] at H
          have c4b0 : decide (x5_1 < (l0.length : Int)) = true := decide_eq_true c4
          clear c4
          by_cases c5 : 0 ≤ x5_1
          · rw [if_pos c5] at H
            have c5b0 : decide (0 ≤ x5_1) = true := decide_eq_true c5
            clear c5
            by_cases c6 : x5_1 < (l1.length : Int)
            · rw [if_pos c6] at H
              have c6b0 : decide (x5_1 < (l1.length : Int)) = true := decide_eq_true c6
              clear c6
              by_cases c7 : (!(((rd_T33 l0 x5_1).f0) == ((rd_T33 l1 x5_1).f0)) || (!(((rd_T33 l0 x5_1).f1) == ((rd_T33 l1 x5_1).f1)) || (!((((rd_T33 l0 x5_1).f2).toList) == (((rd_T33 l1 x5_1).f2).toList))))) = true
              · rw [if_pos c7] at H
                have c7b0 : (!(((rd_T33 l0 x5_1).f0) == ((rd_T33 l1 x5_1).f0)) || (!(((rd_T33 l0 x5_1).f1) == ((rd_T33 l1 x5_1).f1)) || (!((((rd_T33 l0 x5_1).f2).toList) == (((rd_T33 l1 x5_1).f2).toList))))) = true := c7
                clear c7
                obtain rfl := Option.some.inj H
                have p416 : 0 ≤ (x5_1 : Int) := of_decide_eq_true (by first | (with_reducible assumption) | assumption)
                have q416 : x5_1 < (l0.length : Int) := of_decide_eq_true (by first | (with_reducible assumption) | assumption)
                obtain ⟨ad416, e416, hx416_0, hx416_1, hx416_2⟩ := at_T33 HR0.out x5_1 p416 q416
                cases e416
                replace p416 := eq_true p416
                replace q416 := eq_true q416
                have p417 : 0 ≤ (x5_1 : Int) := of_decide_eq_true (by first | (with_reducible assumption) | assumption)
                have q417 : x5_1 < (l1.length : Int) := of_decide_eq_true (by first | (with_reducible assumption) | assumption)
                obtain ⟨ad417, e417, hx417_0, hx417_1, hx417_2⟩ := at_T33 HR1.out x5_1 p417 q417
                cases e417
                replace p417 := eq_true p417
                replace q417 := eq_true q417
                go_wp2
                repeat (go_quiet (fail); try go_wp2)
                go_ret
                exact ⟨by first | rfl | (simp; done) | (simp [*]; done), by repeat (first | exact Drawn0.refl _ | apply Drawn0.step)⟩
              · rw [if_neg c7] at H
                have c7b0 : (!(((rd_T33 l0 x5_1).f0) == ((rd_T33 l1 x5_1).f0)) || (!(((rd_T33 l0 x5_1).f1) == ((rd_T33 l1 x5_1).f1)) || (!((((rd_T33 l0 x5_1).f2).toList) == (((rd_T33 l1 x5_1).f2).toList))))) = false := by simpa using c7
                clear c7
                have H' := Aside0.mk H
                clear H
                have p416 : 0 ≤ (x5_1 : Int) := of_decide_eq_true (by first | (with_reducible assumption) | assumption)
                have q416 : x5_1 < (l0.length : Int) := of_decide_eq_true (by first | (with_reducible assumption) | assumption)
                obtain ⟨ad416, e416, hx416_0, hx416_1, hx416_2⟩ := at_T33 HR0.out x5_1 p416 q416
                cases e416
                replace p416 := eq_true p416
                replace q416 := eq_true q416
                have p417 : 0 ≤ (x5_1 : Int) := of_decide_eq_true (by first | (with_reducible assumption) | assumption)
                have q417 : x5_1 < (l1.length : Int) := of_decide_eq_true (by first | (with_reducible assumption) | assumption)
                obtain ⟨ad417, e417, hx417_0, hx417_1, hx417_2⟩ := at_T33 HR1.out x5_1 p417 q417
                cases e417
                replace p417 := eq_true p417
                replace q417 := eq_true q417
                go_wp2
                repeat (go_quiet (fail); try go_wp2)
                go_roundg k1
                case measure => have := HK1.out; omega
                case rel => exact ⟨(wrap64 (x5_1 + 1)), (by first | rfl | (simp; done) | (simp [*]; done)), H', ⟨by have := HK1.out; omega⟩, by repeat (first | exact Drawn0.refl _ | apply Drawn0.step)⟩
            · rw [if_neg c6] at H
              exact absurd H (by simp)
          · rw [if_neg c5] at H
            exact absurd H (by simp)
        · rw [if_neg c4] at H
          have c4b0 : decide (x5_1 < (l0.length : Int)) = false := decide_eq_false c4
          clear c4
          obtain rfl := Option.some.inj H
          go_wp2
          repeat (go_quiet (fail); try go_wp2)
          go_ret
          exact ⟨by first | rfl | (simp; done) | (simp [*]; done), by repeat (first | exact Drawn0.refl _ | apply Drawn0.step)⟩
  · rw [if_neg c3] at H
    have c3b0 : ((l0.length : Int) == (l1.length : Int)) = false := beq_eq_false_iff_ne.mpr c3
    have c3b1 : ((l0.length : Int) != (l1.length : Int)) = true := bne_iff_ne.mpr c3
    have c3b2 : (l0.length == l1.length) = false := by first | simpa using c3 | (simp at c3 ⊢; omega)
    obtain rfl := Option.some.inj H
    go_enter Try.func49, Try.ntmps49
    go_wp2
    repeat (go_quiet (fail); try go_wp2)
    go_ret
    exact ⟨by first | rfl | (simp; done) | (simp [*]; done), by repeat (first | exact Drawn0.refl _ | apply Drawn0.step)⟩
end Go.Proofs.Ythghflgmeepnlaa.Pa
end
section
namespace Go.Proofs.Ythghflgmeepnlaa.Pa
open Go.RowKit Go.Proofs.YthghflgmeepnlaaW.PrintWords Go.Proofs.YthghflgmeepnlaaW.PrintLast Go.Proofs.YthghflgmeepnlaaW.PrintMore
attribute [local go_sem] max2_int max_two
set_option linter.unusedVariables false
set_option linter.unusedSimpArgs false
attribute [local go_sem high] eqA33
def value_Right.j0 : Nat → Bool → Int → Int → ByteArray → Option (Int)
  | 0, _, _, _, _ => none
  | k + 1, x23, x104000, x104001, x104002 => if x23 = true then (some 2) else (if x104002.toList = ([] : List UInt8) then (some 0) else (some 2))
def value_Right.f (k : Nat) (a0_0 : Int) (a0_1 : Int) (a0_2 : ByteArray) : Option (Int) := if a0_0 = 0 then ((value_Null.f).bind fun bt104 => (if (!(a0_0 == bt104.1) || (!(a0_1 == bt104.2.1) || (!(a0_2.toList == bt104.2.2.toList)))) = true then (some 2) else (some 0))) else (if a0_0 = 1 then (if a0_1 < 0 then (value_Right.j0 k true a0_0 a0_1 a0_2) else (value_Right.j0 k (decide (a0_1 > 1)) a0_0 a0_1 a0_2)) else (if a0_0 = 2 then (if a0_2.toList = ([] : List UInt8) then (some 0) else (some 2)) else (if a0_0 = 3 then (if a0_1 = 0 then (if (a0_2.size : Int) > 1000 then (some 8) else (some 0)) else (some 2)) else (some 2))))
set_option maxHeartbeats 8000000 in
set_option maxRecDepth 100000 in
theorem value_Right.calls (k : Nat) (a0_0 : Int) (a0_1 : Int) (a0_2 : ByteArray) (r : Int) (w : World) (h : value_Right.f k a0_0 a0_1 a0_2 = some r) :
    Calls Try.prog 39 #[.agg #[.int .i64 a0_0, .int .i64 a0_1, .string a0_2]] w fun e w' => e = .returned (.int .i64 r) ∧ Below w.heap.size w w' := by
  have hu33 := Try.underlying33
  have HB := Aside0.mk (Below.refl w.heap.size w)
  have H : (if a0_0 = 0 then ((value_Null.f).bind fun bt104 => (if (!(a0_0 == bt104.1) || (!(a0_1 == bt104.2.1) || (!(a0_2.toList == bt104.2.2.toList)))) = true then (some 2) else (some 0))) else (if a0_0 = 1 then (if a0_1 < 0 then (value_Right.j0 k true a0_0 a0_1 a0_2) else (value_Right.j0 k (decide (a0_1 > 1)) a0_0 a0_1 a0_2)) else (if a0_0 = 2 then (if a0_2.toList = ([] : List UInt8) then (some 0) else (some 2)) else (if a0_0 = 3 then (if a0_1 = 0 then (if (a0_2.size : Int) > 1000 then (some 8) else (some 0)) else (some 2)) else (some 2))))) = some r := h
  clear h
  by_cases c2 : a0_0 = 0
  · rw [if_pos c2] at H
    have c2b0 : (a0_0 == 0) = true := beq_iff_eq.mpr c2
    have c2b1 : (a0_0 != 0) = false := bne_eq_false_iff_eq.mpr c2
    clear c2
    replace H := Option.bind_eq_some_iff.mp H
    obtain ⟨⟨t104, t105, t106⟩, A30, H⟩ := H
    replace H : (if (!(a0_0 == t104) || (!(a0_1 == t105) || (!(a0_2.toList == t106.toList)))) = true then (some 2) else (some 0)) = some r := H
    have A3 := Aside0.mk A30
    clear A30
    by_cases c4 : (!(a0_0 == t104) || (!(a0_1 == t105) || (!(a0_2.toList == t106.toList)))) = true
    · rw [if_pos c4] at H
      have c4b0 : (!(a0_0 == t104) || (!(a0_1 == t105) || (!(a0_2.toList == t106.toList)))) = true := c4
      clear c4
      obtain rfl := Option.some.inj H
      go_enter Try.func39, Try.ntmps39
      try go_wp2_with (first | ((with_reducible refine gate_dst (N := 1) rfl ?_); refine box_event ?hg (N := 1) ?hd (cs := #[.int .i64 a0_0, .int .i64 a0_1, .string a0_2]) (t := 33) ?hr ?_; (case hd => rfl); (case hg => rfl); (case hr => first | (go_simp; done) | (go_simp; rfl)); intro gb103 hg w5 hbox hb; have n0_ := Aside0.mk (below_step (by repeat (first | (with_reducible first | exact HB.out | apply below_alloc | apply pw_below_drewN | apply below_drew1) | exact HB.out)) hb); have n1_ := Aside0.mk (hbox); have n2_ := Aside0.mk ((by rw [hg]; exact (below_size (by repeat (first | (with_reducible first | exact HB.out | apply below_alloc | apply pw_below_drewN | apply below_drew1) | exact HB.out))) : w.heap.size ≤ gb103)); have n3_ := Aside0.mk ((by rw [hg]; exact (below_size (by repeat (first | (with_reducible first | exact HB.out | apply below_alloc | apply pw_below_drewN | apply below_drew1) | exact HB.out))) : w.heap.size ≤ gb103)); clear HB; have HB := n0_; have BK103 := n1_; have GW103 := n2_; have GE103 := n3_; clear n0_ n1_ n2_ n3_; clear hb hbox hg; have hcz6_0 : w5.cell? ⟨gb103, 0, none⟩ = some (.int .i64 a0_0) := (blk_cell BK103.out 0).trans rfl; have hcz6_1 : w5.cell? ⟨gb103, 1, none⟩ = some (.int .i64 a0_1) := (blk_cell BK103.out 1).trans rfl; have hcz6_2 : w5.cell? ⟨gb103, 2, none⟩ = some (.string a0_2) := (blk_cell BK103.out 2).trans rfl; have hfz6_0 := blk_frozen BK103.out 0; have hfz6_1 := blk_frozen BK103.out 1; have hfz6_2 := blk_frozen BK103.out 2))
      have n0_ := Aside0.mk (blk_drew BK103.out)
      have n1_ := Aside0.mk (below_drew1 HB.out)
      clear BK103
      clear HB
      have BK103 := n0_
      have HB := n1_
      clear n0_ n1_
      refine start_ (n := 3) (S := fun w' => w'.cell? ⟨gb103, 0, none⟩ = some (.int .i64 a0_0) ∧ w'.cell? ⟨gb103, 1, none⟩ = some (.int .i64 a0_1) ∧ w'.cell? ⟨gb103, 2, none⟩ = some (.string a0_2)) (ds := []) #[false, false, false] (by kernel_rfl) rfl rfl ⟨(blk_cell BK103.out 0).trans rfl, (blk_cell BK103.out 1).trans rfl, (blk_cell BK103.out 2).trans rfl⟩ (fun hHeld => ?_)
      generalize w5.drew = w7 at BK103 HB hHeld ⊢
      refine take_ (i := 0) (N := some 13) (v := ?_) (a' := ?_) #[true, false, false] rfl rfl (by kernel_rfl) (fun _ _ _ h => h) (Or.inl ⟨by rfl, ?_⟩) hHeld ?_ ?_
      rotate_left
      · rintro w' ⟨s0, s1, s2⟩
        go_simp
        with_reducible rfl
      rotate_left
      · simp only [Act.put, List.setIfInBounds_toArray, List.set_cons_zero, List.set_cons_succ, i64_w, i32_w]
        rfl
      refine one_ (i := 1) (N := some 14) #[true, true, false] rfl rfl (by kernel_rfl) (by decide) (fun K hK => ?_)
      refine goes_ Try.func32 (by kernel_rfl) rfl #[] (by rfl) rfl rfl (by (try simp only [List.map_toArray, List.map_cons, List.map_nil]); first | done | rfl | (simp only [List.length_drop, List.length_take]; rfl)) ?_
      with_reducible refine (value_Null.calls  t104 t105 t106 _ A3.out).mono ?_
      rintro e w8 ⟨rfl, hb⟩
      refine ⟨_, rfl, ?_⟩
      have n0_ := Aside0.mk (blk_below (g := gb103) (o := .cells #[.int .i64 a0_0, .int .i64 a0_1, .string a0_2] 33 (0, 0)) (by (with_reducible repeat (first | refine blk_drewN ?_ _ | refine blk_drew ?_ | refine blk_alloc ?_ _)); exact BK103.out) hb)
      have n1_ := Aside0.mk (below_step (by repeat (first | (with_reducible first | exact HB.out | apply below_alloc | apply pw_below_drewN | apply below_drew1 | refine below_set ?_ GE103.out) | exact HB.out)) hb)
      clear BK103
      clear HB
      have BK103 := n0_
      have HB := n1_
      clear n0_ n1_
      (try clear hb)
      (try clear hb2)
      (try clear hk)
      (try clear hi)
      refine hK.out _ _ ⟨(blk_cell BK103.out 0).trans rfl, (blk_cell BK103.out 1).trans rfl, (blk_cell BK103.out 2).trans rfl⟩ (fun hHeld => ?_)
      clear hK K
      refine norm_ (a' := ?_) ?_ ?_
      rotate_left
      · show Act.put _ (some 14) _ = _
        simp only [Act.put, List.setIfInBounds_toArray, List.set_cons_zero, List.set_cons_succ, i64_w, i32_w]
        rfl
      refine pure_ (i := 2) (N := some 15) (v := ?_) (a' := ?_) #[true, true, true] rfl rfl (by kernel_rfl) (fun _ _ _ h => h) (Or.inl ⟨by rfl, ?_⟩) ?_ ?_
      rotate_left
      · intro w'
        go_simp
        with_reducible rfl
      rotate_left
      · simp only [Act.put, List.setIfInBounds_toArray, List.set_cons_zero, List.set_cons_succ, i64_w, i32_w]
        rfl
      refine done_ (by kernel_rfl) ?_
      try go_wp2
      go_ret
      exact ⟨by first | rfl | (simp [errW_none, errW_some] <;> rfl) | (simp [*, errW_none, errW_some] <;> rfl), by repeat (first | (with_reducible first | exact HB.out | apply below_alloc | apply pw_below_drewN | apply below_drew1 | refine below_set ?_ GE103.out) | exact HB.out)⟩
    · rw [if_neg c4] at H
      have c4b0 : (!(a0_0 == t104) || (!(a0_1 == t105) || (!(a0_2.toList == t106.toList)))) = false := by simpa using c4
      clear c4
      obtain rfl := Option.some.inj H
      go_enter Try.func39, Try.ntmps39
      try go_wp2_with (first | ((with_reducible refine gate_dst (N := 1) rfl ?_); refine box_event ?hg (N := 1) ?hd (cs := #[.int .i64 a0_0, .int .i64 a0_1, .string a0_2]) (t := 33) ?hr ?_; (case hd => rfl); (case hg => rfl); (case hr => first | (go_simp; done) | (go_simp; rfl)); intro gb103 hg w9 hbox hb; have n0_ := Aside0.mk (below_step (by repeat (first | (with_reducible first | exact HB.out | apply below_alloc | apply pw_below_drewN | apply below_drew1) | exact HB.out)) hb); have n1_ := Aside0.mk (hbox); have n2_ := Aside0.mk ((by rw [hg]; exact (below_size (by repeat (first | (with_reducible first | exact HB.out | apply below_alloc | apply pw_below_drewN | apply below_drew1) | exact HB.out))) : w.heap.size ≤ gb103)); have n3_ := Aside0.mk ((by rw [hg]; exact (below_size (by repeat (first | (with_reducible first | exact HB.out | apply below_alloc | apply pw_below_drewN | apply below_drew1) | exact HB.out))) : w.heap.size ≤ gb103)); clear HB; have HB := n0_; have BK103 := n1_; have GW103 := n2_; have GE103 := n3_; clear n0_ n1_ n2_ n3_; clear hb hbox hg; have hcz10_0 : w9.cell? ⟨gb103, 0, none⟩ = some (.int .i64 a0_0) := (blk_cell BK103.out 0).trans rfl; have hcz10_1 : w9.cell? ⟨gb103, 1, none⟩ = some (.int .i64 a0_1) := (blk_cell BK103.out 1).trans rfl; have hcz10_2 : w9.cell? ⟨gb103, 2, none⟩ = some (.string a0_2) := (blk_cell BK103.out 2).trans rfl; have hfz10_0 := blk_frozen BK103.out 0; have hfz10_1 := blk_frozen BK103.out 1; have hfz10_2 := blk_frozen BK103.out 2))
      have n0_ := Aside0.mk (blk_drew BK103.out)
      have n1_ := Aside0.mk (below_drew1 HB.out)
      clear BK103
      clear HB
      have BK103 := n0_
      have HB := n1_
      clear n0_ n1_
      refine start_ (n := 3) (S := fun w' => w'.cell? ⟨gb103, 0, none⟩ = some (.int .i64 a0_0) ∧ w'.cell? ⟨gb103, 1, none⟩ = some (.int .i64 a0_1) ∧ w'.cell? ⟨gb103, 2, none⟩ = some (.string a0_2)) (ds := []) #[false, false, false] (by kernel_rfl) rfl rfl ⟨(blk_cell BK103.out 0).trans rfl, (blk_cell BK103.out 1).trans rfl, (blk_cell BK103.out 2).trans rfl⟩ (fun hHeld => ?_)
      generalize w9.drew = w11 at BK103 HB hHeld ⊢
      refine take_ (i := 0) (N := some 13) (v := ?_) (a' := ?_) #[true, false, false] rfl rfl (by kernel_rfl) (fun _ _ _ h => h) (Or.inl ⟨by rfl, ?_⟩) hHeld ?_ ?_
      rotate_left
      · rintro w' ⟨s0, s1, s2⟩
        go_simp
        with_reducible rfl
      rotate_left
      · simp only [Act.put, List.setIfInBounds_toArray, List.set_cons_zero, List.set_cons_succ, i64_w, i32_w]
        rfl
      refine one_ (i := 1) (N := some 14) #[true, true, false] rfl rfl (by kernel_rfl) (by decide) (fun K hK => ?_)
      refine goes_ Try.func32 (by kernel_rfl) rfl #[] (by rfl) rfl rfl (by (try simp only [List.map_toArray, List.map_cons, List.map_nil]); first | done | rfl | (simp only [List.length_drop, List.length_take]; rfl)) ?_
      with_reducible refine (value_Null.calls  t104 t105 t106 _ A3.out).mono ?_
      rintro e w12 ⟨rfl, hb⟩
      refine ⟨_, rfl, ?_⟩
      have n0_ := Aside0.mk (blk_below (g := gb103) (o := .cells #[.int .i64 a0_0, .int .i64 a0_1, .string a0_2] 33 (0, 0)) (by (with_reducible repeat (first | refine blk_drewN ?_ _ | refine blk_drew ?_ | refine blk_alloc ?_ _)); exact BK103.out) hb)
      have n1_ := Aside0.mk (below_step (by repeat (first | (with_reducible first | exact HB.out | apply below_alloc | apply pw_below_drewN | apply below_drew1 | refine below_set ?_ GE103.out) | exact HB.out)) hb)
      clear BK103
      clear HB
      have BK103 := n0_
      have HB := n1_
      clear n0_ n1_
      (try clear hb)
      (try clear hb2)
      (try clear hk)
      (try clear hi)
      refine hK.out _ _ ⟨(blk_cell BK103.out 0).trans rfl, (blk_cell BK103.out 1).trans rfl, (blk_cell BK103.out 2).trans rfl⟩ (fun hHeld => ?_)
      clear hK K
      refine norm_ (a' := ?_) ?_ ?_
      rotate_left
      · show Act.put _ (some 14) _ = _
        simp only [Act.put, List.setIfInBounds_toArray, List.set_cons_zero, List.set_cons_succ, i64_w, i32_w]
        rfl
      refine pure_ (i := 2) (N := some 15) (v := ?_) (a' := ?_) #[true, true, true] rfl rfl (by kernel_rfl) (fun _ _ _ h => h) (Or.inl ⟨by rfl, ?_⟩) ?_ ?_
      rotate_left
      · intro w'
        go_simp
        with_reducible rfl
      rotate_left
      · simp only [Act.put, List.setIfInBounds_toArray, List.set_cons_zero, List.set_cons_succ, i64_w, i32_w]
        rfl
      refine done_ (by kernel_rfl) ?_
      try go_wp2
      go_ret
      exact ⟨by first | rfl | (simp [errW_none, errW_some] <;> rfl) | (simp [*, errW_none, errW_some] <;> rfl), by repeat (first | (with_reducible first | exact HB.out | apply below_alloc | apply pw_below_drewN | apply below_drew1 | refine below_set ?_ GE103.out) | exact HB.out)⟩
  · rw [if_neg c2] at H
    have c2b0 : (a0_0 == 0) = false := beq_eq_false_iff_ne.mpr c2
    have c2b1 : (a0_0 != 0) = true := bne_iff_ne.mpr c2
    by_cases c13 : a0_0 = 1
    · rw [if_pos c13] at H
      have c13b0 : (a0_0 == 1) = true := beq_iff_eq.mpr c13
      have c13b1 : (a0_0 != 1) = false := bne_eq_false_iff_eq.mpr c13
      clear c13
      have HC14 := Aside0.mk H
      clear H
      go_enter Try.func39, Try.ntmps39
      go_upto_region 8 with (first | ((with_reducible refine gate_dst (N := 1) rfl ?_); refine box_event ?hg (N := 1) ?hd (cs := #[.int .i64 a0_0, .int .i64 a0_1, .string a0_2]) (t := 33) ?hr ?_; (case hd => rfl); (case hg => rfl); (case hr => first | (go_simp; done) | (go_simp; rfl)); intro gb103 hg w15 hbox hb; have n0_ := Aside0.mk (below_step (by repeat (first | (with_reducible first | exact HB.out | apply below_alloc | apply pw_below_drewN | apply below_drew1) | exact HB.out)) hb); have n1_ := Aside0.mk (hbox); have n2_ := Aside0.mk ((by rw [hg]; exact (below_size (by repeat (first | (with_reducible first | exact HB.out | apply below_alloc | apply pw_below_drewN | apply below_drew1) | exact HB.out))) : w.heap.size ≤ gb103)); have n3_ := Aside0.mk ((by rw [hg]; exact (below_size (by repeat (first | (with_reducible first | exact HB.out | apply below_alloc | apply pw_below_drewN | apply below_drew1) | exact HB.out))) : w.heap.size ≤ gb103)); clear HB; have HB := n0_; have BK103 := n1_; have GW103 := n2_; have GE103 := n3_; clear n0_ n1_ n2_ n3_; clear hb hbox hg; have hcz16_0 : w15.cell? ⟨gb103, 0, none⟩ = some (.int .i64 a0_0) := (blk_cell BK103.out 0).trans rfl; have hcz16_1 : w15.cell? ⟨gb103, 1, none⟩ = some (.int .i64 a0_1) := (blk_cell BK103.out 1).trans rfl; have hcz16_2 : w15.cell? ⟨gb103, 2, none⟩ = some (.string a0_2) := (blk_cell BK103.out 2).trans rfl; have hfz16_0 := blk_frozen BK103.out 0; have hfz16_1 := blk_frozen BK103.out 1; have hfz16_2 := blk_frozen BK103.out 2))
      (try simp only [Act.put, List.setIfInBounds_toArray, List.set_cons_zero, List.set_cons_succ])
      go_cut [23] (fun v23 wc => ∃ (kq : Nat) (x23_13 : Bool), v23 = .bool x23_13 ∧ Aside0 (value_Right.j0 kq x23_13 a0_0 a0_1 a0_2 = some r) ∧ Aside0 (kq ≤ k) ∧ Aside0 (wc.heap[gb103]? = some (.cells #[.int .i64 a0_0, .int .i64 a0_1, .string a0_2] 33 (0, 0))) ∧ Aside0 (Below w.heap.size w wc))
      case first =>
        have H := HC14.out
        clear HC14
        by_cases c17 : a0_1 < 0
        · rw [if_pos c17] at H
          have c17b0 : decide (a0_1 < 0) = true := decide_eq_true c17
          clear c17
          (first | rw [c17b0] | (simp only [i64_w, i32_w]; rw [c17b0]) | skip)
          have H' := Aside0.mk H
          clear H
          have hcz18_0 : w15.cell? ⟨gb103, 0, none⟩ = some (.int .i64 a0_0) := (blk_cell BK103.out 0).trans rfl
          have hcz18_1 : w15.cell? ⟨gb103, 1, none⟩ = some (.int .i64 a0_1) := (blk_cell BK103.out 1).trans rfl
          have hcz18_2 : w15.cell? ⟨gb103, 2, none⟩ = some (.string a0_2) := (blk_cell BK103.out 2).trans rfl
          have hfz18_0 := blk_frozen BK103.out 0
          have hfz18_1 := blk_frozen BK103.out 1
          have hfz18_2 := blk_frozen BK103.out 2
          go_wp2
          go_meet
          case rel => exact ⟨_, (true), (by first | rfl | (simp; done) | (simp [*]; done)), H', ⟨by first | omega | exact Nat.le_refl _⟩, ⟨by (with_reducible repeat (first | refine blk_drewN ?_ _ | refine blk_drew ?_ | refine blk_alloc ?_ _)); exact BK103.out⟩, ⟨by repeat (first | (with_reducible first | exact HB.out | apply below_alloc | apply pw_below_drewN | apply below_drew1 | refine below_set ?_ GE103.out) | exact HB.out)⟩⟩
        · rw [if_neg c17] at H
          have c17b0 : decide (a0_1 < 0) = false := decide_eq_false c17
          clear c17
          (first | rw [c17b0] | (simp only [i64_w, i32_w]; rw [c17b0]) | skip)
          have H' := Aside0.mk H
          clear H
          have hcz19_0 : w15.cell? ⟨gb103, 0, none⟩ = some (.int .i64 a0_0) := (blk_cell BK103.out 0).trans rfl
          have hcz19_1 : w15.cell? ⟨gb103, 1, none⟩ = some (.int .i64 a0_1) := (blk_cell BK103.out 1).trans rfl
          have hcz19_2 : w15.cell? ⟨gb103, 2, none⟩ = some (.string a0_2) := (blk_cell BK103.out 2).trans rfl
          have hfz19_0 := blk_frozen BK103.out 0
          have hfz19_1 := blk_frozen BK103.out 1
          have hfz19_2 := blk_frozen BK103.out 2
          go_wp2
          go_meet
          case rel => exact ⟨_, (decide (a0_1 > 1)), (by first | rfl | (simp; done) | (simp [*]; done)), H', ⟨by first | omega | exact Nat.le_refl _⟩, ⟨by (with_reducible repeat (first | refine blk_drewN ?_ _ | refine blk_drew ?_ | refine blk_alloc ?_ _)); exact BK103.out⟩, ⟨by repeat (first | (with_reducible first | exact HB.out | apply below_alloc | apply pw_below_drewN | apply below_drew1 | refine below_set ?_ GE103.out) | exact HB.out)⟩⟩
      case rest =>
        clear HC14
        try clear c1
        try clear c2
        try clear c2b0
        try clear c2b1
        try clear p2
        try clear c3
        try clear c4
        try clear c4b0
        try clear c13
        try clear c13b0
        try clear c13b1
        try clear c17
        try clear c17b0
        try clear hcz10_0
        try clear hcz10_1
        try clear hcz10_2
        try clear hcz16_0
        try clear hcz16_1
        try clear hcz16_2
        try clear hcz18_0
        try clear hcz18_1
        try clear hcz18_2
        try clear hcz19_0
        try clear hcz19_1
        try clear hcz19_2
        try clear hcz6_0
        try clear hcz6_1
        try clear hcz6_2
        try clear hfz10_0
        try clear hfz10_1
        try clear hfz10_2
        try clear hfz16_0
        try clear hfz16_1
        try clear hfz16_2
        try clear hfz18_0
        try clear hfz18_1
        try clear hfz18_2
        try clear hfz19_0
        try clear hfz19_1
        try clear hfz19_2
        try clear hfz6_0
        try clear hfz6_1
        try clear hfz6_2
        obtain ⟨kq, x23_13, rfl, HA, HJ13, BK103, HB⟩ := hcut
        cases kq with
        | zero => exact absurd HA.out (by simp [value_Right.j0])
        | succ kj13 =>
          have H := HA.out
          clear HA
          simp only [value_Right.j0] at H
          by_cases c20 : x23_13 = true
          · subst c20
            have H1 : (some 2) = some r := by rw [if_pos rfl] at H; exact H
            clear H
            have H := H1
            clear H1
            obtain rfl := Option.some.inj H
            go_wp2
            go_ret
            exact ⟨by first | rfl | (simp [errW_none, errW_some] <;> rfl) | (simp [*, errW_none, errW_some] <;> rfl), by repeat (first | (with_reducible first | exact HB.out | apply below_alloc | apply pw_below_drewN | apply below_drew1 | refine below_set ?_ GE103.out) | exact HB.out)⟩
          · replace c20 := Bool.eq_false_iff.mpr c20
            subst c20
            have H1 : (if a0_2.toList = ([] : List UInt8) then (some 0) else (some 2)) = some r := by rw [if_neg (show ¬ (false = true) by decide)] at H; exact H
            clear H
            have H := H1
            clear H1
            by_cases c21 : a0_2.toList = ([] : List UInt8)
            · rw [if_pos c21] at H
              have c21b0 : (a0_2.toList == ([] : List UInt8)) = true := beq_iff_eq.mpr c21
              have c21b1 : (a0_2.toList != ([] : List UInt8)) = false := bne_eq_false_iff_eq.mpr c21
              clear c21
              obtain rfl := Option.some.inj H
              have hcz22_0 : wc.cell? ⟨gb103, 0, none⟩ = some (.int .i64 a0_0) := (blk_cell BK103.out 0).trans rfl
              have hcz22_1 : wc.cell? ⟨gb103, 1, none⟩ = some (.int .i64 a0_1) := (blk_cell BK103.out 1).trans rfl
              have hcz22_2 : wc.cell? ⟨gb103, 2, none⟩ = some (.string a0_2) := (blk_cell BK103.out 2).trans rfl
              have hfz22_0 := blk_frozen BK103.out 0
              have hfz22_1 := blk_frozen BK103.out 1
              have hfz22_2 := blk_frozen BK103.out 2
              go_wp2
              go_ret
              exact ⟨by first | rfl | (simp [errW_none, errW_some] <;> rfl) | (simp [*, errW_none, errW_some] <;> rfl), by repeat (first | (with_reducible first | exact HB.out | apply below_alloc | apply pw_below_drewN | apply below_drew1 | refine below_set ?_ GE103.out) | exact HB.out)⟩
            · rw [if_neg c21] at H
              have c21b0 : (a0_2.toList == ([] : List UInt8)) = false := beq_eq_false_iff_ne.mpr c21
              have c21b1 : (a0_2.toList != ([] : List UInt8)) = true := bne_iff_ne.mpr c21
              obtain rfl := Option.some.inj H
              have hcz23_0 : wc.cell? ⟨gb103, 0, none⟩ = some (.int .i64 a0_0) := (blk_cell BK103.out 0).trans rfl
              have hcz23_1 : wc.cell? ⟨gb103, 1, none⟩ = some (.int .i64 a0_1) := (blk_cell BK103.out 1).trans rfl
              have hcz23_2 : wc.cell? ⟨gb103, 2, none⟩ = some (.string a0_2) := (blk_cell BK103.out 2).trans rfl
              have hfz23_0 := blk_frozen BK103.out 0
              have hfz23_1 := blk_frozen BK103.out 1
              have hfz23_2 := blk_frozen BK103.out 2
              go_wp2
              go_ret
              exact ⟨by first | rfl | (simp [errW_none, errW_some] <;> rfl) | (simp [*, errW_none, errW_some] <;> rfl), by repeat (first | (with_reducible first | exact HB.out | apply below_alloc | apply pw_below_drewN | apply below_drew1 | refine below_set ?_ GE103.out) | exact HB.out)⟩
    · rw [if_neg c13] at H
      have c13b0 : (a0_0 == 1) = false := beq_eq_false_iff_ne.mpr c13
      have c13b1 : (a0_0 != 1) = true := bne_iff_ne.mpr c13
      by_cases c24 : a0_0 = 2
      · rw [if_pos c24] at H
        have c24b0 : (a0_0 == 2) = true := beq_iff_eq.mpr c24
        have c24b1 : (a0_0 != 2) = false := bne_eq_false_iff_eq.mpr c24
        clear c24
        by_cases c25 : a0_2.toList = ([] : List UInt8)
        · rw [if_pos c25] at H
          have c25b0 : (a0_2.toList == ([] : List UInt8)) = true := beq_iff_eq.mpr c25
          have c25b1 : (a0_2.toList != ([] : List UInt8)) = false := bne_eq_false_iff_eq.mpr c25
          clear c25
          obtain rfl := Option.some.inj H
          go_enter Try.func39, Try.ntmps39
          go_wp2_with (first | ((with_reducible refine gate_dst (N := 1) rfl ?_); refine box_event ?hg (N := 1) ?hd (cs := #[.int .i64 a0_0, .int .i64 a0_1, .string a0_2]) (t := 33) ?hr ?_; (case hd => rfl); (case hg => rfl); (case hr => first | (go_simp; done) | (go_simp; rfl)); intro gb103 hg w26 hbox hb; have n0_ := Aside0.mk (below_step (by repeat (first | (with_reducible first | exact HB.out | apply below_alloc | apply pw_below_drewN | apply below_drew1) | exact HB.out)) hb); have n1_ := Aside0.mk (hbox); have n2_ := Aside0.mk ((by rw [hg]; exact (below_size (by repeat (first | (with_reducible first | exact HB.out | apply below_alloc | apply pw_below_drewN | apply below_drew1) | exact HB.out))) : w.heap.size ≤ gb103)); have n3_ := Aside0.mk ((by rw [hg]; exact (below_size (by repeat (first | (with_reducible first | exact HB.out | apply below_alloc | apply pw_below_drewN | apply below_drew1) | exact HB.out))) : w.heap.size ≤ gb103)); clear HB; have HB := n0_; have BK103 := n1_; have GW103 := n2_; have GE103 := n3_; clear n0_ n1_ n2_ n3_; clear hb hbox hg; have hcz27_0 : w26.cell? ⟨gb103, 0, none⟩ = some (.int .i64 a0_0) := (blk_cell BK103.out 0).trans rfl; have hcz27_1 : w26.cell? ⟨gb103, 1, none⟩ = some (.int .i64 a0_1) := (blk_cell BK103.out 1).trans rfl; have hcz27_2 : w26.cell? ⟨gb103, 2, none⟩ = some (.string a0_2) := (blk_cell BK103.out 2).trans rfl; have hfz27_0 := blk_frozen BK103.out 0; have hfz27_1 := blk_frozen BK103.out 1; have hfz27_2 := blk_frozen BK103.out 2))
          go_ret
          exact ⟨by first | rfl | (simp [errW_none, errW_some] <;> rfl) | (simp [*, errW_none, errW_some] <;> rfl), by repeat (first | (with_reducible first | exact HB.out | apply below_alloc | apply pw_below_drewN | apply below_drew1 | refine below_set ?_ GE103.out) | exact HB.out)⟩
        · rw [if_neg c25] at H
          have c25b0 : (a0_2.toList == ([] : List UInt8)) = false := beq_eq_false_iff_ne.mpr c25
          have c25b1 : (a0_2.toList != ([] : List UInt8)) = true := bne_iff_ne.mpr c25
          obtain rfl := Option.some.inj H
          go_enter Try.func39, Try.ntmps39
          go_wp2_with (first | ((with_reducible refine gate_dst (N := 1) rfl ?_); refine box_event ?hg (N := 1) ?hd (cs := #[.int .i64 a0_0, .int .i64 a0_1, .string a0_2]) (t := 33) ?hr ?_; (case hd => rfl); (case hg => rfl); (case hr => first | (go_simp; done) | (go_simp; rfl)); intro gb103 hg w28 hbox hb; have n0_ := Aside0.mk (below_step (by repeat (first | (with_reducible first | exact HB.out | apply below_alloc | apply pw_below_drewN | apply below_drew1) | exact HB.out)) hb); have n1_ := Aside0.mk (hbox); have n2_ := Aside0.mk ((by rw [hg]; exact (below_size (by repeat (first | (with_reducible first | exact HB.out | apply below_alloc | apply pw_below_drewN | apply below_drew1) | exact HB.out))) : w.heap.size ≤ gb103)); have n3_ := Aside0.mk ((by rw [hg]; exact (below_size (by repeat (first | (with_reducible first | exact HB.out | apply below_alloc | apply pw_below_drewN | apply below_drew1) | exact HB.out))) : w.heap.size ≤ gb103)); clear HB; have HB := n0_; have BK103 := n1_; have GW103 := n2_; have GE103 := n3_; clear n0_ n1_ n2_ n3_; clear hb hbox hg; have hcz29_0 : w28.cell? ⟨gb103, 0, none⟩ = some (.int .i64 a0_0) := (blk_cell BK103.out 0).trans rfl; have hcz29_1 : w28.cell? ⟨gb103, 1, none⟩ = some (.int .i64 a0_1) := (blk_cell BK103.out 1).trans rfl; have hcz29_2 : w28.cell? ⟨gb103, 2, none⟩ = some (.string a0_2) := (blk_cell BK103.out 2).trans rfl; have hfz29_0 := blk_frozen BK103.out 0; have hfz29_1 := blk_frozen BK103.out 1; have hfz29_2 := blk_frozen BK103.out 2))
          go_ret
          exact ⟨by first | rfl | (simp [errW_none, errW_some] <;> rfl) | (simp [*, errW_none, errW_some] <;> rfl), by repeat (first | (with_reducible first | exact HB.out | apply below_alloc | apply pw_below_drewN | apply below_drew1 | refine below_set ?_ GE103.out) | exact HB.out)⟩
      · rw [if_neg c24] at H
        have c24b0 : (a0_0 == 2) = false := beq_eq_false_iff_ne.mpr c24
        have c24b1 : (a0_0 != 2) = true := bne_iff_ne.mpr c24
        by_cases c30 : a0_0 = 3
        · rw [if_pos c30] at H
          have c30b0 : (a0_0 == 3) = true := beq_iff_eq.mpr c30
          have c30b1 : (a0_0 != 3) = false := bne_eq_false_iff_eq.mpr c30
          clear c30
          by_cases c31 : a0_1 = 0
          · rw [if_pos c31] at H
            have c31b0 : (a0_1 == 0) = true := beq_iff_eq.mpr c31
            have c31b1 : (a0_1 != 0) = false := bne_eq_false_iff_eq.mpr c31
            clear c31
            by_cases c32 : (a0_2.size : Int) > 1000
            · rw [if_pos c32] at H
              have c32b0 : decide (1000 < (a0_2.size : Int)) = true := decide_eq_true c32
              have c32b1 : decide (1000 < a0_2.size) = true := decide_eq_true (by omega)
              clear c32
              obtain rfl := Option.some.inj H
              go_enter Try.func39, Try.ntmps39
              go_wp2_with (first | ((with_reducible refine gate_dst (N := 1) rfl ?_); refine box_event ?hg (N := 1) ?hd (cs := #[.int .i64 a0_0, .int .i64 a0_1, .string a0_2]) (t := 33) ?hr ?_; (case hd => rfl); (case hg => rfl); (case hr => first | (go_simp; done) | (go_simp; rfl)); intro gb103 hg w33 hbox hb; have n0_ := Aside0.mk (below_step (by repeat (first | (with_reducible first | exact HB.out | apply below_alloc | apply pw_below_drewN | apply below_drew1) | exact HB.out)) hb); have n1_ := Aside0.mk (hbox); have n2_ := Aside0.mk ((by rw [hg]; exact (below_size (by repeat (first | (with_reducible first | exact HB.out | apply below_alloc | apply pw_below_drewN | apply below_drew1) | exact HB.out))) : w.heap.size ≤ gb103)); have n3_ := Aside0.mk ((by rw [hg]; exact (below_size (by repeat (first | (with_reducible first | exact HB.out | apply below_alloc | apply pw_below_drewN | apply below_drew1) | exact HB.out))) : w.heap.size ≤ gb103)); clear HB; have HB := n0_; have BK103 := n1_; have GW103 := n2_; have GE103 := n3_; clear n0_ n1_ n2_ n3_; clear hb hbox hg; have hcz34_0 : w33.cell? ⟨gb103, 0, none⟩ = some (.int .i64 a0_0) := (blk_cell BK103.out 0).trans rfl; have hcz34_1 : w33.cell? ⟨gb103, 1, none⟩ = some (.int .i64 a0_1) := (blk_cell BK103.out 1).trans rfl; have hcz34_2 : w33.cell? ⟨gb103, 2, none⟩ = some (.string a0_2) := (blk_cell BK103.out 2).trans rfl; have hfz34_0 := blk_frozen BK103.out 0; have hfz34_1 := blk_frozen BK103.out 1; have hfz34_2 := blk_frozen BK103.out 2))
              go_ret
              exact ⟨by first | rfl | (simp [errW_none, errW_some] <;> rfl) | (simp [*, errW_none, errW_some] <;> rfl), by repeat (first | (with_reducible first | exact HB.out | apply below_alloc | apply pw_below_drewN | apply below_drew1 | refine below_set ?_ GE103.out) | exact HB.out)⟩
            · rw [if_neg c32] at H
              have c32b0 : decide (1000 < (a0_2.size : Int)) = false := decide_eq_false c32
              have c32b1 : decide (1000 < a0_2.size) = false := decide_eq_false (by omega)
              clear c32
              obtain rfl := Option.some.inj H
              go_enter Try.func39, Try.ntmps39
              go_wp2_with (first | ((with_reducible refine gate_dst (N := 1) rfl ?_); refine box_event ?hg (N := 1) ?hd (cs := #[.int .i64 a0_0, .int .i64 a0_1, .string a0_2]) (t := 33) ?hr ?_; (case hd => rfl); (case hg => rfl); (case hr => first | (go_simp; done) | (go_simp; rfl)); intro gb103 hg w35 hbox hb; have n0_ := Aside0.mk (below_step (by repeat (first | (with_reducible first | exact HB.out | apply below_alloc | apply pw_below_drewN | apply below_drew1) | exact HB.out)) hb); have n1_ := Aside0.mk (hbox); have n2_ := Aside0.mk ((by rw [hg]; exact (below_size (by repeat (first | (with_reducible first | exact HB.out | apply below_alloc | apply pw_below_drewN | apply below_drew1) | exact HB.out))) : w.heap.size ≤ gb103)); have n3_ := Aside0.mk ((by rw [hg]; exact (below_size (by repeat (first | (with_reducible first | exact HB.out | apply below_alloc | apply pw_below_drewN | apply below_drew1) | exact HB.out))) : w.heap.size ≤ gb103)); clear HB; have HB := n0_; have BK103 := n1_; have GW103 := n2_; have GE103 := n3_; clear n0_ n1_ n2_ n3_; clear hb hbox hg; have hcz36_0 : w35.cell? ⟨gb103, 0, none⟩ = some (.int .i64 a0_0) := (blk_cell BK103.out 0).trans rfl; have hcz36_1 : w35.cell? ⟨gb103, 1, none⟩ = some (.int .i64 a0_1) := (blk_cell BK103.out 1).trans rfl; have hcz36_2 : w35.cell? ⟨gb103, 2, none⟩ = some (.string a0_2) := (blk_cell BK103.out 2).trans rfl; have hfz36_0 := blk_frozen BK103.out 0; have hfz36_1 := blk_frozen BK103.out 1; have hfz36_2 := blk_frozen BK103.out 2))
              go_ret
              exact ⟨by first | rfl | (simp [errW_none, errW_some] <;> rfl) | (simp [*, errW_none, errW_some] <;> rfl), by repeat (first | (with_reducible first | exact HB.out | apply below_alloc | apply pw_below_drewN | apply below_drew1 | refine below_set ?_ GE103.out) | exact HB.out)⟩
          · rw [if_neg c31] at H
            have c31b0 : (a0_1 == 0) = false := beq_eq_false_iff_ne.mpr c31
            have c31b1 : (a0_1 != 0) = true := bne_iff_ne.mpr c31
            obtain rfl := Option.some.inj H
            go_enter Try.func39, Try.ntmps39
            go_wp2_with (first | ((with_reducible refine gate_dst (N := 1) rfl ?_); refine box_event ?hg (N := 1) ?hd (cs := #[.int .i64 a0_0, .int .i64 a0_1, .string a0_2]) (t := 33) ?hr ?_; (case hd => rfl); (case hg => rfl); (case hr => first | (go_simp; done) | (go_simp; rfl)); intro gb103 hg w37 hbox hb; have n0_ := Aside0.mk (below_step (by repeat (first | (with_reducible first | exact HB.out | apply below_alloc | apply pw_below_drewN | apply below_drew1) | exact HB.out)) hb); have n1_ := Aside0.mk (hbox); have n2_ := Aside0.mk ((by rw [hg]; exact (below_size (by repeat (first | (with_reducible first | exact HB.out | apply below_alloc | apply pw_below_drewN | apply below_drew1) | exact HB.out))) : w.heap.size ≤ gb103)); have n3_ := Aside0.mk ((by rw [hg]; exact (below_size (by repeat (first | (with_reducible first | exact HB.out | apply below_alloc | apply pw_below_drewN | apply below_drew1) | exact HB.out))) : w.heap.size ≤ gb103)); clear HB; have HB := n0_; have BK103 := n1_; have GW103 := n2_; have GE103 := n3_; clear n0_ n1_ n2_ n3_; clear hb hbox hg; have hcz38_0 : w37.cell? ⟨gb103, 0, none⟩ = some (.int .i64 a0_0) := (blk_cell BK103.out 0).trans rfl; have hcz38_1 : w37.cell? ⟨gb103, 1, none⟩ = some (.int .i64 a0_1) := (blk_cell BK103.out 1).trans rfl; have hcz38_2 : w37.cell? ⟨gb103, 2, none⟩ = some (.string a0_2) := (blk_cell BK103.out 2).trans rfl; have hfz38_0 := blk_frozen BK103.out 0; have hfz38_1 := blk_frozen BK103.out 1; have hfz38_2 := blk_frozen BK103.out 2))
            go_ret
            exact ⟨by first | rfl | (simp [errW_none, errW_some] <;> rfl) | (simp [*, errW_none, errW_some] <;> rfl), by repeat (first | (with_reducible first | exact HB.out | apply below_alloc | apply pw_below_drewN | apply below_drew1 | refine below_set ?_ GE103.out) | exact HB.out)⟩
        · rw [if_neg c30] at H
          have c30b0 : (a0_0 == 3) = false := beq_eq_false_iff_ne.mpr c30
          have c30b1 : (a0_0 != 3) = true := bne_iff_ne.mpr c30
          obtain rfl := Option.some.inj H
          go_enter Try.func39, Try.ntmps39
          go_wp2_with (first | ((with_reducible refine gate_dst (N := 1) rfl ?_); refine box_event ?hg (N := 1) ?hd (cs := #[.int .i64 a0_0, .int .i64 a0_1, .string a0_2]) (t := 33) ?hr ?_; (case hd => rfl); (case hg => rfl); (case hr => first | (go_simp; done) | (go_simp; rfl)); intro gb103 hg w39 hbox hb; have n0_ := Aside0.mk (below_step (by repeat (first | (with_reducible first | exact HB.out | apply below_alloc | apply pw_below_drewN | apply below_drew1) | exact HB.out)) hb); have n1_ := Aside0.mk (hbox); have n2_ := Aside0.mk ((by rw [hg]; exact (below_size (by repeat (first | (with_reducible first | exact HB.out | apply below_alloc | apply pw_below_drewN | apply below_drew1) | exact HB.out))) : w.heap.size ≤ gb103)); have n3_ := Aside0.mk ((by rw [hg]; exact (below_size (by repeat (first | (with_reducible first | exact HB.out | apply below_alloc | apply pw_below_drewN | apply below_drew1) | exact HB.out))) : w.heap.size ≤ gb103)); clear HB; have HB := n0_; have BK103 := n1_; have GW103 := n2_; have GE103 := n3_; clear n0_ n1_ n2_ n3_; clear hb hbox hg; have hcz40_0 : w39.cell? ⟨gb103, 0, none⟩ = some (.int .i64 a0_0) := (blk_cell BK103.out 0).trans rfl; have hcz40_1 : w39.cell? ⟨gb103, 1, none⟩ = some (.int .i64 a0_1) := (blk_cell BK103.out 1).trans rfl; have hcz40_2 : w39.cell? ⟨gb103, 2, none⟩ = some (.string a0_2) := (blk_cell BK103.out 2).trans rfl; have hfz40_0 := blk_frozen BK103.out 0; have hfz40_1 := blk_frozen BK103.out 1; have hfz40_2 := blk_frozen BK103.out 2))
          go_ret
          exact ⟨by first | rfl | (simp [errW_none, errW_some] <;> rfl) | (simp [*, errW_none, errW_some] <;> rfl), by repeat (first | (with_reducible first | exact HB.out | apply below_alloc | apply pw_below_drewN | apply below_drew1 | refine below_set ?_ GE103.out) | exact HB.out)⟩
end Go.Proofs.Ythghflgmeepnlaa.Pa
end
section
namespace Go.Proofs.Ythghflgmeepnlaa.Pa
open Go.RowKit Go.Proofs.YthghflgmeepnlaaW.PrintWords Go.Proofs.YthghflgmeepnlaaW.PrintLast Go.Proofs.YthghflgmeepnlaaW.PrintMore
attribute [local go_sem] max2_int max_two
set_option linter.unusedVariables false
set_option linter.unusedSimpArgs false
def cordonlaw02_Few.l0 : Nat → List (S33) → Int → Int → Option (Bool)
  | 0, _, _, _ => none
  | k + 1, x0, x5, x6 => if x6 < x5 then (if 0 ≤ x6 then (if x6 < (x0.length : Int) then (if (((rd_T33 x0 x6).f2).size : Int) > 1100 then (some false) else (cordonlaw02_Few.l0 k x0 x5 (wrap64 (x6 + 1)))) else (none)) else (none)) else (some (decide ((x0.length : Int) ≤ 60)))
def cordonlaw02_Few.f (k : Nat) (l0 : List (S33)) : Option (Bool) := cordonlaw02_Few.l0 k l0 (l0.length : Int) 0
set_option maxHeartbeats 8000000 in
set_option maxRecDepth 100000 in
theorem cordonlaw02_Few.calls (k : Nat) (A0 : Option Addr) (c0 : Nat) (l0 : List (S33)) (r : Bool) (w : World) (hr0 : Kd.C k33 w A0 l0.length l0) (hc0 : l0.length ≤ c0) (h : cordonlaw02_Few.f k l0 = some r) :
    Calls Try.prog 19 #[.slice A0 l0.length c0] w fun e w' => e = .returned (.bool r) ∧ Drawn0 w w' := by
  have HR0 := Aside0.mk hr0
  have HC0 := Aside0.mk hc0
  clear hr0 hc0
  have H : (cordonlaw02_Few.l0 k l0 (l0.length : Int) 0) = some r := h
  clear h
  have H' := Aside0.mk H
  clear H
  go_enter Try.func19, Try.ntmps19
  go_wp2
  go_loopg [6] k (fun kq v6 w' => ∃ (x6_1 : Int), v6 = .int .i64 x6_1 ∧ Aside0 (cordonlaw02_Few.l0 kq l0 (l0.length : Int) x6_1 = some r) ∧ Aside0 (kq ≤ k) ∧ Drawn0 w w')
  case atStart => exact ⟨(0), (by first | rfl | (simp; done) | (simp [*]; done)), H', ⟨Nat.le_refl _⟩, by repeat (first | exact Drawn0.refl _ | apply Drawn0.step)⟩
  case round =>
    clear H'
    try clear c1
    obtain ⟨x6_1, rfl, HA, HK1, ⟨m1, rfl⟩⟩ := hrel
    cases gk with
    | zero => exact absurd HA.out (by simp [cordonlaw02_Few.l0])
    | succ k1 =>
      have H := HA.out
      clear HA
      simp only [cordonlaw02_Few.l0] at H
      by_cases c2 : x6_1 < (l0.length : Int)
      · rw [if_pos c2] at H
        have c2b0 : decide (x6_1 < (l0.length : Int)) = true := decide_eq_true c2
        clear c2
        by_cases c3 : 0 ≤ x6_1
        · rw [if_pos c3] at H
          have c3b0 : decide (0 ≤ x6_1) = true := decide_eq_true c3
          clear c3
          by_cases c4 : x6_1 < (l0.length : Int)
          · rw [if_pos c4] at H
            have c4b0 : decide (x6_1 < (l0.length : Int)) = true := decide_eq_true c4
            clear c4
            by_cases c5 : (((rd_T33 l0 x6_1).f2).size : Int) > 1100
            · rw [if_pos c5] at H
              have c5b0 : decide (1100 < (((rd_T33 l0 x6_1).f2).size : Int)) = true := decide_eq_true c5
              have c5b1 : decide (1100 < ((rd_T33 l0 x6_1).f2).size) = true := decide_eq_true (by omega)
              clear c5
              obtain rfl := Option.some.inj H
              have p101 : 0 ≤ (x6_1 : Int) := of_decide_eq_true (by first | (with_reducible assumption) | assumption)
              have q101 : x6_1 < (l0.length : Int) := of_decide_eq_true (by first | (with_reducible assumption) | assumption)
              obtain ⟨ad101, e101, hx101_0, hx101_1, hx101_2⟩ := at_T33 HR0.out x6_1 p101 q101
              cases e101
              replace p101 := eq_true p101
              replace q101 := eq_true q101
              go_wp2
              go_ret
              exact ⟨by first | rfl | (simp; done) | (simp [*]; done), by repeat (first | exact Drawn0.refl _ | apply Drawn0.step)⟩
            · rw [if_neg c5] at H
              have c5b0 : decide (1100 < (((rd_T33 l0 x6_1).f2).size : Int)) = false := decide_eq_false c5
              have c5b1 : decide (1100 < ((rd_T33 l0 x6_1).f2).size) = false := decide_eq_false (by omega)
              clear c5
              have H' := Aside0.mk H
              clear H
              have p101 : 0 ≤ (x6_1 : Int) := of_decide_eq_true (by first | (with_reducible assumption) | assumption)
              have q101 : x6_1 < (l0.length : Int) := of_decide_eq_true (by first | (with_reducible assumption) | assumption)
              obtain ⟨ad101, e101, hx101_0, hx101_1, hx101_2⟩ := at_T33 HR0.out x6_1 p101 q101
              cases e101
              replace p101 := eq_true p101
              replace q101 := eq_true q101
              go_wp2
              go_roundg k1
              case measure => have := HK1.out; omega
              case rel => exact ⟨(wrap64 (x6_1 + 1)), (by first | rfl | (simp; done) | (simp [*]; done)), H', ⟨by have := HK1.out; omega⟩, by repeat (first | exact Drawn0.refl _ | apply Drawn0.step)⟩
          · rw [if_neg c4] at H
            exact absurd H (by simp)
        · rw [if_neg c3] at H
          exact absurd H (by simp)
      · rw [if_neg c2] at H
        have c2b0 : decide (x6_1 < (l0.length : Int)) = false := decide_eq_false c2
        clear c2
        obtain rfl := Option.some.inj H
        go_wp2
        go_ret
        exact ⟨by first | rfl | (simp; done) | (simp [*]; done), by repeat (first | exact Drawn0.refl _ | apply Drawn0.step)⟩
mutual
def code_put.l0 : Nat → List Int → Int → Int → Int → ByteArray → Option (List Int)
  | 0, _, _, _, _, _ => none
  | k + 1, x0, x5, x108000, x108001, x108002 => if x5 ≥ 0 then (if 0 ≤ (wrap64 (8 * x5)) then (if x0.length < 140737488355328 then (code_put.l0 k (x0 ++ [(shr .u64 (Go.bits .xor .u64 (IntKind.u64.wrap (x108001)) 9223372036854775808) (wrap64 (8 * x5))) % 256]) (wrap64 (x5 - 1)) x108000 x108001 x108002) else (none)) else (none)) else (some x0)
def code_put.l1 : Nat → List Int → Int → Int → Int → Int → ByteArray → Option (List Int)
  | 0, _, _, _, _, _, _ => none
  | k + 1, x0, x46, x47, x108000, x108001, x108002 => if x47 < x46 then (if 0 ≤ x47 then (if x47 < (x108002.size : Int) then (if x0.length < 140737488355328 then ((some (x0 ++ [bt x108002 x47] : List Int)).bind fun y120 => (if (bt x108002 x47) = 0 then (if y120.length < 140737488355328 then (code_put.l1 k (y120 ++ [255]) x46 (wrap64 (x47 + 1)) x108000 x108001 x108002) else (none)) else (code_put.l1 k y120 x46 (wrap64 (x47 + 1)) x108000 x108001 x108002))) else (none)) else (none)) else (none)) else ((some (([0, 0] : List Int) : List Int)).bind fun y126 => (if x0.length + y126.length < 140737488355328 then (some (x0 ++ y126)) else (none)))
end
def code_put.f (k : Nat) (l0 : List Int) (a1_0 : Int) (a1_1 : Int) (a1_2 : ByteArray) : Option (List Int) := if a1_0 = 1 then (if l0.length < 140737488355328 then (some (l0 ++ [(wrap64 (2 + a1_1)) % 256])) else (none)) else (if a1_0 = 2 then (if l0.length < 140737488355328 then (code_put.l0 k (l0 ++ [4]) 7 a1_0 a1_1 a1_2) else (none)) else (if a1_0 = 3 then (if l0.length < 140737488355328 then (code_put.l1 k (l0 ++ [5]) (a1_2.size : Int) 0 a1_0 a1_1 a1_2) else (none)) else (if l0.length < 140737488355328 then (some (l0 ++ [1])) else (none))))
set_option maxHeartbeats 8000000 in
set_option maxRecDepth 100000 in
theorem code_put.calls (k : Nat) (P0_ : Nat → Prop) (u9000_ : Value) (l0 : List Int) (a1_0 : Int) (a1_1 : Int) (a1_2 : ByteArray) (r : List Int) (w0 w : World) (hB : Below w0.heap.size w0 w) (ho0 : Kd.R (Kd.int .u8) 5 w w0.heap.size P0_ u9000_ l0) (h : code_put.f k l0 a1_0 a1_1 a1_2 = some r) :
    Calls Try.prog 72 #[u9000_, .agg #[.int .i64 a1_0, .int .i64 a1_1, .string a1_2]] w fun e w' => ∃ v0_ : Value, e = .returned (v0_) ∧ Kd.R (Kd.int .u8) 5 w' w0.heap.size (fun k_ => (P0_ k_ ∨ w.heap.size ≤ k_)) v0_ r ∧ Below w0.heap.size w0 w' ∧ Kept w w' (fun k_ => P0_ k_) := by
  have hu33 := Try.underlying33
  have HO0 := Aside0.mk (show Kd.R (Kd.int .u8) 5 w w0.heap.size (fun k_ => (P0_ k_ ∨ w.heap.size ≤ k_)) u9000_ l0 from Kd.R_mono ho0 (fun k_ hk => (.inl hk)))
  have HK := Aside0.mk (Kept.refl w (fun k_ => P0_ k_))
  have HW0 := Aside0.mk hB.size
  have HB := Aside0.mk hB
  clear hB
  have H : (if a1_0 = 1 then (if l0.length < 140737488355328 then (some (l0 ++ [(wrap64 (2 + a1_1)) % 256])) else (none)) else (if a1_0 = 2 then (if l0.length < 140737488355328 then (code_put.l0 k (l0 ++ [4]) 7 a1_0 a1_1 a1_2) else (none)) else (if a1_0 = 3 then (if l0.length < 140737488355328 then (code_put.l1 k (l0 ++ [5]) (a1_2.size : Int) 0 a1_0 a1_1 a1_2) else (none)) else (if l0.length < 140737488355328 then (some (l0 ++ [1])) else (none))))) = some r := h
  clear h
  by_cases c3 : a1_0 = 1
  · rw [if_pos c3] at H
    have c3b0 : (a1_0 == 1) = true := beq_iff_eq.mpr c3
    have c3b1 : (a1_0 != 1) = false := bne_eq_false_iff_eq.mpr c3
    clear c3
    by_cases c4 : l0.length < 140737488355328
    · rw [if_pos c4] at H
      have LMc4 := Aside0.mk c4
      clear c4
      obtain ⟨y108, hy108⟩ : ∃ y_ : List Int, y_ = (l0 ++ [(wrap64 (2 + a1_1)) % 256]) := ⟨_, rfl⟩
      replace H : (some y108) = some r := by first | (rw [hy108]; with_reducible exact H) | (have H2_ := (Option.bind_some _ _).symm.trans H; rw [hy108]; with_reducible exact H2_) | (have H2_ := (Option.bind_some _ _).symm.trans H; with_reducible exact H2_) | with_reducible exact H | (rw [hy108]; exact H) | exact H
      have Ny108 := Aside0.mk hy108
      clear hy108
      obtain rfl := Option.some.inj H
      go_enter Try.func72, Try.ntmps72
      go_wp2_with (first | ((with_reducible refine gate_dst (N := 3) rfl ?_); refine box_event ?hg (N := 3) ?hd (cs := #[.int .i64 a1_0, .int .i64 a1_1, .string a1_2]) (t := 33) ?hr ?_; (case hd => rfl); (case hg => rfl); (case hr => first | (go_simp; done) | (go_simp; rfl)); intro gb107 hg w5 hbox hb; have n0_ := Aside0.mk (Kd.R_below (by (with_reducible repeat (first | apply Kd.R_alloc | apply Kd.R_drewN | apply Kd.R_drew)); exact HO0.out) hb); have n1_ := Aside0.mk (Kept.below (S := (fun k_ => P0_ k_)) (by repeat (first | (with_reducible first | exact HK.out | apply Kept.alloc | apply Kept.drewN | apply Kept.drew) | exact HK.out)) hb); have n2_ := Aside0.mk (below_step (by repeat (first | (with_reducible first | exact HB.out | apply below_alloc | apply pw_below_drewN | apply below_drew1) | exact HB.out)) hb); have n3_ := Aside0.mk (hbox); have n4_ := Aside0.mk ((by rw [hg]; exact (by first | exact HK.out.1 | exact (show Kept w _ (fun k_ => P0_ k_) from by repeat (first | (with_reducible first | exact HK.out | apply Kept.alloc | apply Kept.drewN | apply Kept.drew) | exact HK.out)).1) : w.heap.size ≤ gb107)); have n5_ := Aside0.mk ((by rw [hg]; exact (below_size (by repeat (first | (with_reducible first | exact HB.out | apply below_alloc | apply pw_below_drewN | apply below_drew1) | exact HB.out))) : w0.heap.size ≤ gb107)); clear HO0; clear HK; clear HB; have HO0 := n0_; have HK := n1_; have HB := n2_; have BK107 := n3_; have GW107 := n4_; have GE107 := n5_; clear n0_ n1_ n2_ n3_ n4_ n5_; clear hb hbox hg; have hcz6_0 : w5.cell? ⟨gb107, 0, none⟩ = some (.int .i64 a1_0) := (blk_cell BK107.out 0).trans rfl; have hcz6_1 : w5.cell? ⟨gb107, 1, none⟩ = some (.int .i64 a1_1) := (blk_cell BK107.out 1).trans rfl; have hcz6_2 : w5.cell? ⟨gb107, 2, none⟩ = some (.string a1_2) := (blk_cell BK107.out 2).trans rfl; have hfz6_0 := blk_frozen BK107.out 0; have hfz6_1 := blk_frozen BK107.out 1; have hfz6_2 := blk_frozen BK107.out 2) | ((with_reducible refine gate_builtin (b := .append) (xs := #[.tmp 11, .tmp 16]) rfl ?_); at_builtin; refine Kd.R_append (Kd.int .u8) (w0 := w0) w0.heap.size rfl (.tmp 11) (.tmp 16) 77 5 (.int .u8 0) 1 rfl Try.underlying77 info5 rfl (by decide) (by omega) u9000_ l0 ((wrap64 (2 + a1_1)) % 256) [.int .u8 ((wrap64 (2 + a1_1)) % 256)] (fun k_ => (P0_ k_ ∨ w.heap.size ≤ k_)) (fun _ => False) rfl rfl ?aP (fun _ hk => hk.elim) ?aF ?aO ?aB ?aS ?aL ?_; (case aP => exact rfl); (case aB => exact (by repeat (first | (with_reducible first | exact HB.out | apply below_alloc | apply pw_below_drewN | apply below_drew1 | refine below_set ?_ GE107.out) | exact HB.out))); (case aF => exact (fun k_ hk => (.inr (Nat.le_trans (by first | exact HK.out.1 | exact (show Kept w _ (fun k_ => P0_ k_) from by repeat (first | (with_reducible first | exact HK.out | apply Kept.alloc | apply Kept.drewN | apply Kept.drew | refine Kept.setCell ?_ (.inr GW107.out) _) | exact HK.out)).1) hk)))); (case aO => exact (by (with_reducible repeat (first | apply Kd.R_alloc | apply Kd.R_drewN | apply Kd.R_drew)); exact HO0.out)); (case aS => exact (below_size (by repeat (first | (with_reducible first | exact HB.out | apply below_alloc | apply pw_below_drewN | apply below_drew1 | refine below_set ?_ GE107.out) | exact HB.out)))); (case aL => have := LMc4.out; omega); intro v109 w7 ho hb hg hat; rw [← Ny108.out] at ho; have n0_ := Aside0.mk (blk_grown (g := gb107) (o := .cells #[.int .i64 a1_0, .int .i64 a1_1, .string a1_2] 33 (0, 0)) (by (with_reducible repeat (first | refine blk_drewN ?_ _ | refine blk_drew ?_ | refine blk_alloc ?_ _)); exact BK107.out) hg (Kd.R_ne HO0.out BK107.out (by decide))); have n1_ := Aside0.mk (hb); have n2_ := Aside0.mk (Kept.of_grown (S := (fun k_ => P0_ k_)) hg (by repeat (first | (with_reducible first | exact HK.out | apply Kept.alloc | apply Kept.drewN | apply Kept.drew | refine Kept.setCell ?_ (.inr GW107.out) _) | exact HK.out)) (fun k_ e_ => (HO0.out.1 k_ e_))); have n3_ := Aside0.mk (ho); clear BK107; clear HB; clear HK; clear HO0; have BK107 := n0_; have HB := n1_; have HK := n2_; have HO110 := n3_; clear n0_ n1_ n2_ n3_; clear ho hb hg hat))
      go_ret
      exact ⟨_, by first | rfl | (simp [errW_none, errW_some] <;> rfl) | (simp [*, errW_none, errW_some] <;> rfl), by (with_reducible repeat (first | apply Kd.R_alloc | apply Kd.R_drewN | apply Kd.R_drew)); exact HO110.out, by repeat (first | (with_reducible first | exact HB.out | apply below_alloc | apply pw_below_drewN | apply below_drew1 | refine below_set ?_ GE107.out) | exact HB.out), by repeat (first | (with_reducible first | exact HK.out | apply Kept.alloc | apply Kept.drewN | apply Kept.drew | refine Kept.setCell ?_ (.inr GW107.out) _) | exact HK.out)⟩
    · rw [if_neg c4] at H
      exact absurd H (by simp)
  · rw [if_neg c3] at H
    have c3b0 : (a1_0 == 1) = false := beq_eq_false_iff_ne.mpr c3
    have c3b1 : (a1_0 != 1) = true := bne_iff_ne.mpr c3
    by_cases c8 : a1_0 = 2
    · rw [if_pos c8] at H
      have c8b0 : (a1_0 == 2) = true := beq_iff_eq.mpr c8
      have c8b1 : (a1_0 != 2) = false := bne_eq_false_iff_eq.mpr c8
      clear c8
      by_cases c9 : l0.length < 140737488355328
      · rw [if_pos c9] at H
        have LMc9 := Aside0.mk c9
        clear c9
        obtain ⟨y111, hy111⟩ : ∃ y_ : List Int, y_ = (l0 ++ [4]) := ⟨_, rfl⟩
        replace H : (code_put.l0 k y111 7 a1_0 a1_1 a1_2) = some r := by first | (rw [hy111]; with_reducible exact H) | (have H2_ := (Option.bind_some _ _).symm.trans H; rw [hy111]; with_reducible exact H2_) | (have H2_ := (Option.bind_some _ _).symm.trans H; with_reducible exact H2_) | with_reducible exact H | (rw [hy111]; exact H) | exact H
        have Ny111 := Aside0.mk hy111
        clear hy111
        have H' := Aside0.mk H
        clear H
        go_enter Try.func72, Try.ntmps72
        go_wp2_with (first | ((with_reducible refine gate_dst (N := 3) rfl ?_); refine box_event ?hg (N := 3) ?hd (cs := #[.int .i64 a1_0, .int .i64 a1_1, .string a1_2]) (t := 33) ?hr ?_; (case hd => rfl); (case hg => rfl); (case hr => first | (go_simp; done) | (go_simp; rfl)); intro gb107 hg w10 hbox hb; have n0_ := Aside0.mk (Kd.R_below (by (with_reducible repeat (first | apply Kd.R_alloc | apply Kd.R_drewN | apply Kd.R_drew)); exact HO0.out) hb); have n1_ := Aside0.mk (Kept.below (S := (fun k_ => P0_ k_)) (by repeat (first | (with_reducible first | exact HK.out | apply Kept.alloc | apply Kept.drewN | apply Kept.drew) | exact HK.out)) hb); have n2_ := Aside0.mk (below_step (by repeat (first | (with_reducible first | exact HB.out | apply below_alloc | apply pw_below_drewN | apply below_drew1) | exact HB.out)) hb); have n3_ := Aside0.mk (hbox); have n4_ := Aside0.mk ((by rw [hg]; exact (by first | exact HK.out.1 | exact (show Kept w _ (fun k_ => P0_ k_) from by repeat (first | (with_reducible first | exact HK.out | apply Kept.alloc | apply Kept.drewN | apply Kept.drew) | exact HK.out)).1) : w.heap.size ≤ gb107)); have n5_ := Aside0.mk ((by rw [hg]; exact (below_size (by repeat (first | (with_reducible first | exact HB.out | apply below_alloc | apply pw_below_drewN | apply below_drew1) | exact HB.out))) : w0.heap.size ≤ gb107)); clear HO0; clear HK; clear HB; have HO0 := n0_; have HK := n1_; have HB := n2_; have BK107 := n3_; have GW107 := n4_; have GE107 := n5_; clear n0_ n1_ n2_ n3_ n4_ n5_; clear hb hbox hg; have hcz11_0 : w10.cell? ⟨gb107, 0, none⟩ = some (.int .i64 a1_0) := (blk_cell BK107.out 0).trans rfl; have hcz11_1 : w10.cell? ⟨gb107, 1, none⟩ = some (.int .i64 a1_1) := (blk_cell BK107.out 1).trans rfl; have hcz11_2 : w10.cell? ⟨gb107, 2, none⟩ = some (.string a1_2) := (blk_cell BK107.out 2).trans rfl; have hfz11_0 := blk_frozen BK107.out 0; have hfz11_1 := blk_frozen BK107.out 1; have hfz11_2 := blk_frozen BK107.out 2) | ((with_reducible refine gate_builtin (b := .append) (xs := #[.tmp 20, .tmp 21]) rfl ?_); at_builtin; refine Kd.R_append (Kd.int .u8) (w0 := w0) w0.heap.size rfl (.tmp 20) (.tmp 21) 77 5 (.int .u8 0) 1 rfl Try.underlying77 info5 rfl (by decide) (by omega) u9000_ l0 4 [.int .u8 4] (fun k_ => (P0_ k_ ∨ w.heap.size ≤ k_)) (fun _ => False) rfl rfl ?aP (fun _ hk => hk.elim) ?aF ?aO ?aB ?aS ?aL ?_; (case aP => exact rfl); (case aB => exact (by repeat (first | (with_reducible first | exact HB.out | apply below_alloc | apply pw_below_drewN | apply below_drew1 | refine below_set ?_ GE107.out) | exact HB.out))); (case aF => exact (fun k_ hk => (.inr (Nat.le_trans (by first | exact HK.out.1 | exact (show Kept w _ (fun k_ => P0_ k_) from by repeat (first | (with_reducible first | exact HK.out | apply Kept.alloc | apply Kept.drewN | apply Kept.drew | refine Kept.setCell ?_ (.inr GW107.out) _) | exact HK.out)).1) hk)))); (case aO => exact (by (with_reducible repeat (first | apply Kd.R_alloc | apply Kd.R_drewN | apply Kd.R_drew)); exact HO0.out)); (case aS => exact (below_size (by repeat (first | (with_reducible first | exact HB.out | apply below_alloc | apply pw_below_drewN | apply below_drew1 | refine below_set ?_ GE107.out) | exact HB.out)))); (case aL => have := LMc9.out; omega); intro v112 w12 ho hb hg hat; rw [← Ny111.out] at ho; have n0_ := Aside0.mk (blk_grown (g := gb107) (o := .cells #[.int .i64 a1_0, .int .i64 a1_1, .string a1_2] 33 (0, 0)) (by (with_reducible repeat (first | refine blk_drewN ?_ _ | refine blk_drew ?_ | refine blk_alloc ?_ _)); exact BK107.out) hg (Kd.R_ne HO0.out BK107.out (by decide))); have n1_ := Aside0.mk (hb); have n2_ := Aside0.mk (Kept.of_grown (S := (fun k_ => P0_ k_)) hg (by repeat (first | (with_reducible first | exact HK.out | apply Kept.alloc | apply Kept.drewN | apply Kept.drew | refine Kept.setCell ?_ (.inr GW107.out) _) | exact HK.out)) (fun k_ e_ => (HO0.out.1 k_ e_))); have n3_ := Aside0.mk (ho); clear BK107; clear HB; clear HK; clear HO0; have BK107 := n0_; have HB := n1_; have HK := n2_; have HO113 := n3_; clear n0_ n1_ n2_ n3_; clear ho hb hg hat))
        go_loopg [0, 5] k (fun kq v0 v5 w' => ∃ (x0_1 : List Int) (x5_1 : Int), v5 = .int .i64 x5_1 ∧ Aside0 (code_put.l0 kq x0_1 x5_1 a1_0 a1_1 a1_2 = some r) ∧ Aside0 (kq ≤ k) ∧ Aside0 (Kd.R (Kd.int .u8) 5 w' w0.heap.size (fun k_ => (P0_ k_ ∨ w.heap.size ≤ k_)) v0 x0_1) ∧ Aside0 (w'.heap[gb107]? = some (.cells #[.int .i64 a1_0, .int .i64 a1_1, .string a1_2] 33 (0, 0))) ∧ Aside0 (Kept w w' (fun k_ => P0_ k_)) ∧ Aside0 (Below w0.heap.size w0 w'))
        case atStart => exact ⟨(y111), (7), (by first | rfl | (simp; done) | (simp [*]; done)), H', ⟨Nat.le_refl _⟩, ⟨by (with_reducible repeat (first | apply Kd.R_alloc | apply Kd.R_drewN | apply Kd.R_drew)); exact HO113.out⟩, ⟨by (with_reducible repeat (first | refine blk_drewN ?_ _ | refine blk_drew ?_ | refine blk_alloc ?_ _)); exact BK107.out⟩, ⟨by repeat (first | (with_reducible first | exact HK.out | apply Kept.alloc | apply Kept.drewN | apply Kept.drew | refine Kept.setCell ?_ (.inr GW107.out) _) | exact HK.out)⟩, ⟨by repeat (first | (with_reducible first | exact HB.out | apply below_alloc | apply pw_below_drewN | apply below_drew1 | refine below_set ?_ GE107.out) | exact HB.out)⟩⟩
        case round =>
          clear H'
          try clear p2
          try clear c3
          try clear c3b0
          try clear c3b1
          try clear c4
          try clear p6
          try clear c7
          try clear c8
          try clear c8b0
          try clear c8b1
          try clear c9
          try clear hcz11_0
          try clear hcz11_1
          try clear hcz11_2
          try clear hcz6_0
          try clear hcz6_1
          try clear hcz6_2
          try clear hfz11_0
          try clear hfz11_1
          try clear hfz11_2
          try clear hfz6_0
          try clear hfz6_1
          try clear hfz6_2
          obtain ⟨x0_1, x5_1, rfl, HA, HK1, HO_0, BK107, HK, HB⟩ := hrel
          cases gk with
          | zero => exact absurd HA.out (by simp [code_put.l0])
          | succ k1 =>
            have H := HA.out
            clear HA
            simp only [code_put.l0] at H
            by_cases c13 : x5_1 ≥ 0
            · rw [if_pos c13] at H
              have c13b0 : decide (0 ≤ x5_1) = true := decide_eq_true c13
              clear c13
              obtain ⟨ji14, hji14⟩ : ∃ j_ : Int, (wrap64 (8 * x5_1)) = j_ := ⟨_, rfl⟩
              replace H : (if 0 ≤ (ji14) then (if x0_1.length < 140737488355328 then (code_put.l0 k1 (x0_1 ++ [(shr .u64 (Go.bits .xor .u64 (IntKind.u64.wrap (a1_1)) 9223372036854775808) (ji14)) % 256]) (wrap64 (x5_1 - 1)) a1_0 a1_1 a1_2) else (none)) else (none)) = some r := by first | (rw [hji14] at H; exact H) | (simp only [hji14] at H ⊢; exact H)
              have hji14w : (IntKind.i64.wrap (8 * x5_1)) = ji14 := (i64_w _).trans hji14
              by_cases c15 : 0 ≤ (ji14)
              · rw [if_pos c15] at H
                have c15b0 := eq_true c15
                have c15b1 : decide (0 ≤ (ji14)) = true := decide_eq_true c15
                clear c15
                obtain ⟨ji16, hji16⟩ : ∃ j_ : Int, (shr .u64 (Go.bits .xor .u64 (IntKind.u64.wrap (a1_1)) 9223372036854775808) (ji14)) = j_ := ⟨_, rfl⟩
                replace H : (if x0_1.length < 140737488355328 then (code_put.l0 k1 (x0_1 ++ [(ji16) % 256]) (wrap64 (x5_1 - 1)) a1_0 a1_1 a1_2) else (none)) = some r := by first | (rw [hji16] at H; exact H) | (simp only [hji16] at H ⊢; exact H)
                have hji16_ : ((Go.bits .xor .u64 (IntKind.u64.wrap (a1_1)) 9223372036854775808) / 2 ^ min (ji14).toNat 64) = ji16 := hji16
                have hji16z : (ji14) ≤ 64 → ((Go.bits .xor .u64 (IntKind.u64.wrap (a1_1)) 9223372036854775808) / 2 ^ (ji14).toNat) = ji16 := shr_small hji16
                by_cases c17 : x0_1.length < 140737488355328
                · rw [if_pos c17] at H
                  have LMc17 := Aside0.mk c17
                  clear c17
                  obtain ⟨y114, hy114⟩ : ∃ y_ : List Int, y_ = (x0_1 ++ [(ji16) % 256]) := ⟨_, rfl⟩
                  replace H : (code_put.l0 k1 y114 (wrap64 (x5_1 - 1)) a1_0 a1_1 a1_2) = some r := by first | (rw [hy114]; with_reducible exact H) | (have H2_ := (Option.bind_some _ _).symm.trans H; rw [hy114]; with_reducible exact H2_) | (have H2_ := (Option.bind_some _ _).symm.trans H; with_reducible exact H2_) | with_reducible exact H | (rw [hy114]; exact H) | exact H
                  have Ny114 := Aside0.mk hy114
                  clear hy114
                  have H' := Aside0.mk H
                  clear H
                  have hcz18_0 : wr.cell? ⟨gb107, 0, none⟩ = some (.int .i64 a1_0) := (blk_cell BK107.out 0).trans rfl
                  have hcz18_1 : wr.cell? ⟨gb107, 1, none⟩ = some (.int .i64 a1_1) := (blk_cell BK107.out 1).trans rfl
                  have hcz18_2 : wr.cell? ⟨gb107, 2, none⟩ = some (.string a1_2) := (blk_cell BK107.out 2).trans rfl
                  have hfz18_0 := blk_frozen BK107.out 0
                  have hfz18_1 := blk_frozen BK107.out 1
                  have hfz18_2 := blk_frozen BK107.out 2
                  go_wp2_with (first | ((with_reducible refine gate_builtin (b := .append) (xs := #[.tmp 27, .tmp 36]) rfl ?_); at_builtin; refine Kd.R_append (Kd.int .u8) (w0 := w0) w0.heap.size rfl (.tmp 27) (.tmp 36) 77 5 (.int .u8 0) 1 rfl Try.underlying77 info5 rfl (by decide) (by omega) u0 x0_1 ((ji16) % 256) [.int .u8 ((ji16) % 256)] (fun k_ => (P0_ k_ ∨ w.heap.size ≤ k_)) (fun _ => False) rfl rfl ?aP (fun _ hk => hk.elim) ?aF ?aO ?aB ?aS ?aL ?_; (case aP => exact rfl); (case aB => exact (by repeat (first | (with_reducible first | exact HB.out | apply below_alloc | apply pw_below_drewN | apply below_drew1 | refine below_set ?_ GE107.out) | exact HB.out))); (case aF => exact (fun k_ hk => (.inr (Nat.le_trans (by first | exact HK.out.1 | exact (show Kept w _ (fun k_ => P0_ k_) from by repeat (first | (with_reducible first | exact HK.out | apply Kept.alloc | apply Kept.drewN | apply Kept.drew | refine Kept.setCell ?_ (.inr GW107.out) _) | exact HK.out)).1) hk)))); (case aO => exact (by (with_reducible repeat (first | apply Kd.R_alloc | apply Kd.R_drewN | apply Kd.R_drew)); exact HO_0.out)); (case aS => exact (below_size (by repeat (first | (with_reducible first | exact HB.out | apply below_alloc | apply pw_below_drewN | apply below_drew1 | refine below_set ?_ GE107.out) | exact HB.out)))); (case aL => have := LMc17.out; omega); intro v115 w19 ho hb hg hat; rw [← Ny114.out] at ho; have n0_ := Aside0.mk (blk_grown (g := gb107) (o := .cells #[.int .i64 a1_0, .int .i64 a1_1, .string a1_2] 33 (0, 0)) (by (with_reducible repeat (first | refine blk_drewN ?_ _ | refine blk_drew ?_ | refine blk_alloc ?_ _)); exact BK107.out) hg (Kd.R_ne HO_0.out BK107.out (by decide))); have n1_ := Aside0.mk (hb); have n2_ := Aside0.mk (Kept.of_grown (S := (fun k_ => P0_ k_)) hg (by repeat (first | (with_reducible first | exact HK.out | apply Kept.alloc | apply Kept.drewN | apply Kept.drew | refine Kept.setCell ?_ (.inr GW107.out) _) | exact HK.out)) (fun k_ e_ => (HO_0.out.1 k_ e_))); have n3_ := Aside0.mk (ho); clear BK107; clear HB; clear HK; clear HO_0; have BK107 := n0_; have HB := n1_; have HK := n2_; have HO116 := n3_; clear n0_ n1_ n2_ n3_; clear ho hb hg hat))
                  go_roundg k1
                  case measure => have := HK1.out; omega
                  case rel => exact ⟨(y114), (wrap64 (x5_1 - 1)), (by first | rfl | (simp; done) | (simp [*]; done)), H', ⟨by have := HK1.out; omega⟩, ⟨by (with_reducible repeat (first | apply Kd.R_alloc | apply Kd.R_drewN | apply Kd.R_drew)); exact HO116.out⟩, ⟨by (with_reducible repeat (first | refine blk_drewN ?_ _ | refine blk_drew ?_ | refine blk_alloc ?_ _)); exact BK107.out⟩, ⟨by repeat (first | (with_reducible first | exact HK.out | apply Kept.alloc | apply Kept.drewN | apply Kept.drew | refine Kept.setCell ?_ (.inr GW107.out) _) | exact HK.out)⟩, ⟨by repeat (first | (with_reducible first | exact HB.out | apply below_alloc | apply pw_below_drewN | apply below_drew1 | refine below_set ?_ GE107.out) | exact HB.out)⟩⟩
                · rw [if_neg c17] at H
                  exact absurd H (by simp)
              · rw [if_neg c15] at H
                exact absurd H (by simp)
            · rw [if_neg c13] at H
              have c13b0 : decide (0 ≤ x5_1) = false := decide_eq_false c13
              clear c13
              obtain rfl := Option.some.inj H
              go_wp2
              go_ret
              exact ⟨_, by first | rfl | (simp [errW_none, errW_some] <;> rfl) | (simp [*, errW_none, errW_some] <;> rfl), by (with_reducible repeat (first | apply Kd.R_alloc | apply Kd.R_drewN | apply Kd.R_drew)); exact HO_0.out, by repeat (first | (with_reducible first | exact HB.out | apply below_alloc | apply pw_below_drewN | apply below_drew1 | refine below_set ?_ GE107.out) | exact HB.out), by repeat (first | (with_reducible first | exact HK.out | apply Kept.alloc | apply Kept.drewN | apply Kept.drew | refine Kept.setCell ?_ (.inr GW107.out) _) | exact HK.out)⟩
      · rw [if_neg c9] at H
        exact absurd H (by simp)
    · rw [if_neg c8] at H
      have c8b0 : (a1_0 == 2) = false := beq_eq_false_iff_ne.mpr c8
      have c8b1 : (a1_0 != 2) = true := bne_iff_ne.mpr c8
      by_cases c20 : a1_0 = 3
      · rw [if_pos c20] at H
        have c20b0 : (a1_0 == 3) = true := beq_iff_eq.mpr c20
        have c20b1 : (a1_0 != 3) = false := bne_eq_false_iff_eq.mpr c20
        clear c20
        by_cases c21 : l0.length < 140737488355328
        · rw [if_pos c21] at H
          have LMc21 := Aside0.mk c21
          clear c21
          obtain ⟨y117, hy117⟩ : ∃ y_ : List Int, y_ = (l0 ++ [5]) := ⟨_, rfl⟩
          replace H : (code_put.l1 k y117 (a1_2.size : Int) 0 a1_0 a1_1 a1_2) = some r := by first | (rw [hy117]; with_reducible exact H) | (have H2_ := (Option.bind_some _ _).symm.trans H; rw [hy117]; with_reducible exact H2_) | (have H2_ := (Option.bind_some _ _).symm.trans H; with_reducible exact H2_) | with_reducible exact H | (rw [hy117]; exact H) | exact H
          have Ny117 := Aside0.mk hy117
          clear hy117
          have H' := Aside0.mk H
          clear H
          go_enter Try.func72, Try.ntmps72
          go_wp2_with (first | ((with_reducible refine gate_dst (N := 3) rfl ?_); refine box_event ?hg (N := 3) ?hd (cs := #[.int .i64 a1_0, .int .i64 a1_1, .string a1_2]) (t := 33) ?hr ?_; (case hd => rfl); (case hg => rfl); (case hr => first | (go_simp; done) | (go_simp; rfl)); intro gb107 hg w22 hbox hb; have n0_ := Aside0.mk (Kd.R_below (by (with_reducible repeat (first | apply Kd.R_alloc | apply Kd.R_drewN | apply Kd.R_drew)); exact HO0.out) hb); have n1_ := Aside0.mk (Kept.below (S := (fun k_ => P0_ k_)) (by repeat (first | (with_reducible first | exact HK.out | apply Kept.alloc | apply Kept.drewN | apply Kept.drew) | exact HK.out)) hb); have n2_ := Aside0.mk (below_step (by repeat (first | (with_reducible first | exact HB.out | apply below_alloc | apply pw_below_drewN | apply below_drew1) | exact HB.out)) hb); have n3_ := Aside0.mk (hbox); have n4_ := Aside0.mk ((by rw [hg]; exact (by first | exact HK.out.1 | exact (show Kept w _ (fun k_ => P0_ k_) from by repeat (first | (with_reducible first | exact HK.out | apply Kept.alloc | apply Kept.drewN | apply Kept.drew) | exact HK.out)).1) : w.heap.size ≤ gb107)); have n5_ := Aside0.mk ((by rw [hg]; exact (below_size (by repeat (first | (with_reducible first | exact HB.out | apply below_alloc | apply pw_below_drewN | apply below_drew1) | exact HB.out))) : w0.heap.size ≤ gb107)); clear HO0; clear HK; clear HB; have HO0 := n0_; have HK := n1_; have HB := n2_; have BK107 := n3_; have GW107 := n4_; have GE107 := n5_; clear n0_ n1_ n2_ n3_ n4_ n5_; clear hb hbox hg; have hcz23_0 : w22.cell? ⟨gb107, 0, none⟩ = some (.int .i64 a1_0) := (blk_cell BK107.out 0).trans rfl; have hcz23_1 : w22.cell? ⟨gb107, 1, none⟩ = some (.int .i64 a1_1) := (blk_cell BK107.out 1).trans rfl; have hcz23_2 : w22.cell? ⟨gb107, 2, none⟩ = some (.string a1_2) := (blk_cell BK107.out 2).trans rfl; have hfz23_0 := blk_frozen BK107.out 0; have hfz23_1 := blk_frozen BK107.out 1; have hfz23_2 := blk_frozen BK107.out 2) | ((with_reducible refine gate_builtin (b := .append) (xs := #[.tmp 41, .tmp 42]) rfl ?_); at_builtin; refine Kd.R_append (Kd.int .u8) (w0 := w0) w0.heap.size rfl (.tmp 41) (.tmp 42) 77 5 (.int .u8 0) 1 rfl Try.underlying77 info5 rfl (by decide) (by omega) u9000_ l0 5 [.int .u8 5] (fun k_ => (P0_ k_ ∨ w.heap.size ≤ k_)) (fun _ => False) rfl rfl ?aP (fun _ hk => hk.elim) ?aF ?aO ?aB ?aS ?aL ?_; (case aP => exact rfl); (case aB => exact (by repeat (first | (with_reducible first | exact HB.out | apply below_alloc | apply pw_below_drewN | apply below_drew1 | refine below_set ?_ GE107.out) | exact HB.out))); (case aF => exact (fun k_ hk => (.inr (Nat.le_trans (by first | exact HK.out.1 | exact (show Kept w _ (fun k_ => P0_ k_) from by repeat (first | (with_reducible first | exact HK.out | apply Kept.alloc | apply Kept.drewN | apply Kept.drew | refine Kept.setCell ?_ (.inr GW107.out) _) | exact HK.out)).1) hk)))); (case aO => exact (by (with_reducible repeat (first | apply Kd.R_alloc | apply Kd.R_drewN | apply Kd.R_drew)); exact HO0.out)); (case aS => exact (below_size (by repeat (first | (with_reducible first | exact HB.out | apply below_alloc | apply pw_below_drewN | apply below_drew1 | refine below_set ?_ GE107.out) | exact HB.out)))); (case aL => have := LMc21.out; omega); intro v118 w24 ho hb hg hat; rw [← Ny117.out] at ho; have n0_ := Aside0.mk (blk_grown (g := gb107) (o := .cells #[.int .i64 a1_0, .int .i64 a1_1, .string a1_2] 33 (0, 0)) (by (with_reducible repeat (first | refine blk_drewN ?_ _ | refine blk_drew ?_ | refine blk_alloc ?_ _)); exact BK107.out) hg (Kd.R_ne HO0.out BK107.out (by decide))); have n1_ := Aside0.mk (hb); have n2_ := Aside0.mk (Kept.of_grown (S := (fun k_ => P0_ k_)) hg (by repeat (first | (with_reducible first | exact HK.out | apply Kept.alloc | apply Kept.drewN | apply Kept.drew | refine Kept.setCell ?_ (.inr GW107.out) _) | exact HK.out)) (fun k_ e_ => (HO0.out.1 k_ e_))); have n3_ := Aside0.mk (ho); clear BK107; clear HB; clear HK; clear HO0; have BK107 := n0_; have HB := n1_; have HK := n2_; have HO119 := n3_; clear n0_ n1_ n2_ n3_; clear ho hb hg hat; have hcz25_0 : w24.cell? ⟨gb107, 0, none⟩ = some (.int .i64 a1_0) := (blk_cell BK107.out 0).trans rfl; have hcz25_1 : w24.cell? ⟨gb107, 1, none⟩ = some (.int .i64 a1_1) := (blk_cell BK107.out 1).trans rfl; have hcz25_2 : w24.cell? ⟨gb107, 2, none⟩ = some (.string a1_2) := (blk_cell BK107.out 2).trans rfl; have hfz25_0 := blk_frozen BK107.out 0; have hfz25_1 := blk_frozen BK107.out 1; have hfz25_2 := blk_frozen BK107.out 2))
          go_loopg [0, 47] k (fun kq v0 v47 w' => ∃ (x0_1 : List Int) (x47_1 : Int), v47 = .int .i64 x47_1 ∧ Aside0 (code_put.l1 kq x0_1 (a1_2.size : Int) x47_1 a1_0 a1_1 a1_2 = some r) ∧ Aside0 (kq ≤ k) ∧ Aside0 (Kd.R (Kd.int .u8) 5 w' w0.heap.size (fun k_ => (P0_ k_ ∨ w.heap.size ≤ k_)) v0 x0_1) ∧ Aside0 (w'.heap[gb107]? = some (.cells #[.int .i64 a1_0, .int .i64 a1_1, .string a1_2] 33 (0, 0))) ∧ Aside0 (Kept w w' (fun k_ => P0_ k_)) ∧ Aside0 (Below w0.heap.size w0 w'))
          case atStart => exact ⟨(y117), (0), (by first | rfl | (simp; done) | (simp [*]; done)), H', ⟨Nat.le_refl _⟩, ⟨by (with_reducible repeat (first | apply Kd.R_alloc | apply Kd.R_drewN | apply Kd.R_drew)); exact HO119.out⟩, ⟨by (with_reducible repeat (first | refine blk_drewN ?_ _ | refine blk_drew ?_ | refine blk_alloc ?_ _)); exact BK107.out⟩, ⟨by repeat (first | (with_reducible first | exact HK.out | apply Kept.alloc | apply Kept.drewN | apply Kept.drew | refine Kept.setCell ?_ (.inr GW107.out) _) | exact HK.out)⟩, ⟨by repeat (first | (with_reducible first | exact HB.out | apply below_alloc | apply pw_below_drewN | apply below_drew1 | refine below_set ?_ GE107.out) | exact HB.out)⟩⟩
          case round =>
            clear H'
            try clear c1
            try clear c2
            try clear p2
            try clear c3
            try clear c3b0
            try clear c3b1
            try clear c4
            try clear p6
            try clear c7
            try clear c8
            try clear c8b0
            try clear c8b1
            try clear c9
            try clear c13
            try clear c13b0
            try clear c15
            try clear c15b0
            try clear c15b1
            try clear c17
            try clear c20
            try clear c20b0
            try clear c20b1
            try clear c21
            try clear hcz11_0
            try clear hcz11_1
            try clear hcz11_2
            try clear hcz18_0
            try clear hcz18_1
            try clear hcz18_2
            try clear hcz23_0
            try clear hcz23_1
            try clear hcz23_2
            try clear hcz25_0
            try clear hcz25_1
            try clear hcz25_2
            try clear hcz6_0
            try clear hcz6_1
            try clear hcz6_2
            try clear hfz11_0
            try clear hfz11_1
            try clear hfz11_2
            try clear hfz18_0
            try clear hfz18_1
            try clear hfz18_2
            try clear hfz23_0
            try clear hfz23_1
            try clear hfz23_2
            try clear hfz25_0
            try clear hfz25_1
            try clear hfz25_2
            try clear hfz6_0
            try clear hfz6_1
            try clear hfz6_2
            try clear p2
            try clear p6
            obtain ⟨x0_1, x47_1, rfl, HA, HK1, HO_0, BK107, HK, HB⟩ := hrel
            cases gk with
            | zero => exact absurd HA.out (by simp [code_put.l1])
            | succ k1 =>
              have H := HA.out
              clear HA
              simp only [code_put.l1] at H
              by_cases c26 : x47_1 < (a1_2.size : Int)
              · rw [if_pos c26] at H
                have c26b0 : decide (x47_1 < (a1_2.size : Int)) = true := decide_eq_true c26
                clear c26
                by_cases c27 : 0 ≤ x47_1
                · rw [if_pos c27] at H
                  have c27b0 : decide (0 ≤ x47_1) = true := decide_eq_true c27
                  clear c27
                  by_cases c28 : x47_1 < (a1_2.size : Int)
                  · rw [if_pos c28] at H
                    have c28b0 : decide (x47_1 < (a1_2.size : Int)) = true := decide_eq_true c28
                    clear c28
                    by_cases c30 : x0_1.length < 140737488355328
                    · rw [if_pos c30] at H
                      have LMc30 := Aside0.mk c30
                      clear c30
                      obtain ⟨y120, hy120⟩ : ∃ y_ : List Int, y_ = (x0_1 ++ [bt a1_2 x47_1]) := ⟨_, rfl⟩
                      replace H : (if (bt a1_2 x47_1) = 0 then (if y120.length < 140737488355328 then (code_put.l1 k1 (y120 ++ [255]) (a1_2.size : Int) (wrap64 (x47_1 + 1)) a1_0 a1_1 a1_2) else (none)) else (code_put.l1 k1 y120 (a1_2.size : Int) (wrap64 (x47_1 + 1)) a1_0 a1_1 a1_2)) = some r := by first | (rw [hy120]; with_reducible exact H) | (have H2_ := (Option.bind_some _ _).symm.trans H; rw [hy120]; with_reducible exact H2_) | (have H2_ := (Option.bind_some _ _).symm.trans H; with_reducible exact H2_) | with_reducible exact H | (rw [hy120]; exact H) | exact H
                      have Ny120 := Aside0.mk hy120
                      clear hy120
                      by_cases c32 : (bt a1_2 x47_1) = 0
                      · rw [if_pos c32] at H
                        have c32b0 : ((bt a1_2 x47_1) == 0) = true := beq_iff_eq.mpr c32
                        have c32b1 : ((bt a1_2 x47_1) != 0) = false := bne_eq_false_iff_eq.mpr c32
                        clear c32
                        by_cases c33 : y120.length < 140737488355328
                        · rw [if_pos c33] at H
                          have LMc33 := Aside0.mk c33
                          clear c33
                          obtain ⟨y123, hy123⟩ : ∃ y_ : List Int, y_ = (y120 ++ [255]) := ⟨_, rfl⟩
                          replace H : (code_put.l1 k1 y123 (a1_2.size : Int) (wrap64 (x47_1 + 1)) a1_0 a1_1 a1_2) = some r := by first | (rw [hy123]; with_reducible exact H) | (have H2_ := (Option.bind_some _ _).symm.trans H; rw [hy123]; with_reducible exact H2_) | (have H2_ := (Option.bind_some _ _).symm.trans H; with_reducible exact H2_) | with_reducible exact H | (rw [hy123]; exact H) | exact H
                          have Ny123 := Aside0.mk hy123
                          clear hy123
                          have H' := Aside0.mk H
                          clear H
                          have hcz34_0 : wr.cell? ⟨gb107, 0, none⟩ = some (.int .i64 a1_0) := (blk_cell BK107.out 0).trans rfl
                          have hcz34_1 : wr.cell? ⟨gb107, 1, none⟩ = some (.int .i64 a1_1) := (blk_cell BK107.out 1).trans rfl
                          have hcz34_2 : wr.cell? ⟨gb107, 2, none⟩ = some (.string a1_2) := (blk_cell BK107.out 2).trans rfl
                          have hfz34_0 := blk_frozen BK107.out 0
                          have hfz34_1 := blk_frozen BK107.out 1
                          have hfz34_2 := blk_frozen BK107.out 2
                          have p29 : 0 ≤ (x47_1 : Int) := of_decide_eq_true (by first | (with_reducible assumption) | assumption)
                          have q29 : x47_1 < (a1_2.size : Int) := of_decide_eq_true (by first | (with_reducible assumption) | assumption)
                          have hx29 := bt_at a1_2 x47_1
                          replace p29 := eq_true p29
                          replace q29 := eq_true q29
                          go_wp2_with (first | ((with_reducible refine gate_builtin (b := .append) (xs := #[.tmp 50, .tmp 55]) rfl ?_); at_builtin; refine Kd.R_append (Kd.int .u8) (w0 := w0) w0.heap.size rfl (.tmp 50) (.tmp 55) 77 5 (.int .u8 0) 1 rfl Try.underlying77 info5 rfl (by decide) (by omega) u0 x0_1 (bt a1_2 x47_1) [.int .u8 (bt a1_2 x47_1)] (fun k_ => (P0_ k_ ∨ w.heap.size ≤ k_)) (fun _ => False) rfl rfl ?aP (fun _ hk => hk.elim) ?aF ?aO ?aB ?aS ?aL ?_; (case aP => exact rfl); (case aB => exact (by repeat (first | (with_reducible first | exact HB.out | apply below_alloc | apply pw_below_drewN | apply below_drew1 | refine below_set ?_ GE107.out) | exact HB.out))); (case aF => exact (fun k_ hk => (.inr (Nat.le_trans (by first | exact HK.out.1 | exact (show Kept w _ (fun k_ => P0_ k_) from by repeat (first | (with_reducible first | exact HK.out | apply Kept.alloc | apply Kept.drewN | apply Kept.drew | refine Kept.setCell ?_ (.inr GW107.out) _) | exact HK.out)).1) hk)))); (case aO => exact (by (with_reducible repeat (first | apply Kd.R_alloc | apply Kd.R_drewN | apply Kd.R_drew)); exact HO_0.out)); (case aS => exact (below_size (by repeat (first | (with_reducible first | exact HB.out | apply below_alloc | apply pw_below_drewN | apply below_drew1 | refine below_set ?_ GE107.out) | exact HB.out)))); (case aL => have := LMc30.out; omega); intro v121 w35 ho hb hg hat; rw [← Ny120.out] at ho; have n0_ := Aside0.mk (blk_grown (g := gb107) (o := .cells #[.int .i64 a1_0, .int .i64 a1_1, .string a1_2] 33 (0, 0)) (by (with_reducible repeat (first | refine blk_drewN ?_ _ | refine blk_drew ?_ | refine blk_alloc ?_ _)); exact BK107.out) hg (Kd.R_ne HO_0.out BK107.out (by decide))); have n1_ := Aside0.mk (hb); have n2_ := Aside0.mk (Kept.of_grown (S := (fun k_ => P0_ k_)) hg (by repeat (first | (with_reducible first | exact HK.out | apply Kept.alloc | apply Kept.drewN | apply Kept.drew | refine Kept.setCell ?_ (.inr GW107.out) _) | exact HK.out)) (fun k_ e_ => (HO_0.out.1 k_ e_))); have n3_ := Aside0.mk (ho); clear BK107; clear HB; clear HK; clear HO_0; have BK107 := n0_; have HB := n1_; have HK := n2_; have HO122 := n3_; clear n0_ n1_ n2_ n3_; clear ho hb hg hat; have hcz36_0 : w35.cell? ⟨gb107, 0, none⟩ = some (.int .i64 a1_0) := (blk_cell BK107.out 0).trans rfl; have hcz36_1 : w35.cell? ⟨gb107, 1, none⟩ = some (.int .i64 a1_1) := (blk_cell BK107.out 1).trans rfl; have hcz36_2 : w35.cell? ⟨gb107, 2, none⟩ = some (.string a1_2) := (blk_cell BK107.out 2).trans rfl; have hfz36_0 := blk_frozen BK107.out 0; have hfz36_1 := blk_frozen BK107.out 1; have hfz36_2 := blk_frozen BK107.out 2; have p31 : 0 ≤ (x47_1 : Int) := of_decide_eq_true (by first | (with_reducible assumption) | assumption); have q31 : x47_1 < (a1_2.size : Int) := of_decide_eq_true (by first | (with_reducible assumption) | assumption); have hx31 := bt_at a1_2 x47_1; replace p31 := eq_true p31; replace q31 := eq_true q31) | ((with_reducible refine gate_builtin (b := .append) (xs := #[.tmp 62, .tmp 63]) rfl ?_); at_builtin; refine Kd.R_append (Kd.int .u8) (w0 := w0) w0.heap.size rfl (.tmp 62) (.tmp 63) 77 5 (.int .u8 0) 1 rfl Try.underlying77 info5 rfl (by decide) (by omega) v121 y120 255 [.int .u8 255] (fun k_ => (P0_ k_ ∨ w.heap.size ≤ k_)) (fun _ => False) rfl rfl ?aP (fun _ hk => hk.elim) ?aF ?aO ?aB ?aS ?aL ?_; (case aP => exact rfl); (case aB => exact (by repeat (first | (with_reducible first | exact HB.out | apply below_alloc | apply pw_below_drewN | apply below_drew1 | refine below_set ?_ GE107.out) | exact HB.out))); (case aF => exact (fun k_ hk => (.inr (Nat.le_trans (by first | exact HK.out.1 | exact (show Kept w _ (fun k_ => P0_ k_) from by repeat (first | (with_reducible first | exact HK.out | apply Kept.alloc | apply Kept.drewN | apply Kept.drew | refine Kept.setCell ?_ (.inr GW107.out) _) | exact HK.out)).1) hk)))); (case aO => exact (by (with_reducible repeat (first | apply Kd.R_alloc | apply Kd.R_drewN | apply Kd.R_drew)); exact HO122.out)); (case aS => exact (below_size (by repeat (first | (with_reducible first | exact HB.out | apply below_alloc | apply pw_below_drewN | apply below_drew1 | refine below_set ?_ GE107.out) | exact HB.out)))); (case aL => have := LMc33.out; omega); intro v124 w37 ho hb hg hat; rw [← Ny123.out] at ho; have n0_ := Aside0.mk (blk_grown (g := gb107) (o := .cells #[.int .i64 a1_0, .int .i64 a1_1, .string a1_2] 33 (0, 0)) (by (with_reducible repeat (first | refine blk_drewN ?_ _ | refine blk_drew ?_ | refine blk_alloc ?_ _)); exact BK107.out) hg (Kd.R_ne HO122.out BK107.out (by decide))); have n1_ := Aside0.mk (hb); have n2_ := Aside0.mk (Kept.of_grown (S := (fun k_ => P0_ k_)) hg (by repeat (first | (with_reducible first | exact HK.out | apply Kept.alloc | apply Kept.drewN | apply Kept.drew | refine Kept.setCell ?_ (.inr GW107.out) _) | exact HK.out)) (fun k_ e_ => (HO122.out.1 k_ e_))); have n3_ := Aside0.mk (ho); clear BK107; clear HB; clear HK; clear HO122; have BK107 := n0_; have HB := n1_; have HK := n2_; have HO125 := n3_; clear n0_ n1_ n2_ n3_; clear ho hb hg hat))
                          go_roundg k1
                          case measure => have := HK1.out; omega
                          case rel => exact ⟨(y123), (wrap64 (x47_1 + 1)), (by first | rfl | (simp; done) | (simp [*]; done)), H', ⟨by have := HK1.out; omega⟩, ⟨by (with_reducible repeat (first | apply Kd.R_alloc | apply Kd.R_drewN | apply Kd.R_drew)); exact HO125.out⟩, ⟨by (with_reducible repeat (first | refine blk_drewN ?_ _ | refine blk_drew ?_ | refine blk_alloc ?_ _)); exact BK107.out⟩, ⟨by repeat (first | (with_reducible first | exact HK.out | apply Kept.alloc | apply Kept.drewN | apply Kept.drew | refine Kept.setCell ?_ (.inr GW107.out) _) | exact HK.out)⟩, ⟨by repeat (first | (with_reducible first | exact HB.out | apply below_alloc | apply pw_below_drewN | apply below_drew1 | refine below_set ?_ GE107.out) | exact HB.out)⟩⟩
                        · rw [if_neg c33] at H
                          exact absurd H (by simp)
                      · rw [if_neg c32] at H
                        have c32b0 : ((bt a1_2 x47_1) == 0) = false := beq_eq_false_iff_ne.mpr c32
                        have c32b1 : ((bt a1_2 x47_1) != 0) = true := bne_iff_ne.mpr c32
                        have H' := Aside0.mk H
                        clear H
                        have hcz38_0 : wr.cell? ⟨gb107, 0, none⟩ = some (.int .i64 a1_0) := (blk_cell BK107.out 0).trans rfl
                        have hcz38_1 : wr.cell? ⟨gb107, 1, none⟩ = some (.int .i64 a1_1) := (blk_cell BK107.out 1).trans rfl
                        have hcz38_2 : wr.cell? ⟨gb107, 2, none⟩ = some (.string a1_2) := (blk_cell BK107.out 2).trans rfl
                        have hfz38_0 := blk_frozen BK107.out 0
                        have hfz38_1 := blk_frozen BK107.out 1
                        have hfz38_2 := blk_frozen BK107.out 2
                        have p29 : 0 ≤ (x47_1 : Int) := of_decide_eq_true (by first | (with_reducible assumption) | assumption)
                        have q29 : x47_1 < (a1_2.size : Int) := of_decide_eq_true (by first | (with_reducible assumption) | assumption)
                        have hx29 := bt_at a1_2 x47_1
                        replace p29 := eq_true p29
                        replace q29 := eq_true q29
                        go_wp2_with (first | ((with_reducible refine gate_builtin (b := .append) (xs := #[.tmp 50, .tmp 55]) rfl ?_); at_builtin; refine Kd.R_append (Kd.int .u8) (w0 := w0) w0.heap.size rfl (.tmp 50) (.tmp 55) 77 5 (.int .u8 0) 1 rfl Try.underlying77 info5 rfl (by decide) (by omega) u0 x0_1 (bt a1_2 x47_1) [.int .u8 (bt a1_2 x47_1)] (fun k_ => (P0_ k_ ∨ w.heap.size ≤ k_)) (fun _ => False) rfl rfl ?aP (fun _ hk => hk.elim) ?aF ?aO ?aB ?aS ?aL ?_; (case aP => exact rfl); (case aB => exact (by repeat (first | (with_reducible first | exact HB.out | apply below_alloc | apply pw_below_drewN | apply below_drew1 | refine below_set ?_ GE107.out) | exact HB.out))); (case aF => exact (fun k_ hk => (.inr (Nat.le_trans (by first | exact HK.out.1 | exact (show Kept w _ (fun k_ => P0_ k_) from by repeat (first | (with_reducible first | exact HK.out | apply Kept.alloc | apply Kept.drewN | apply Kept.drew | refine Kept.setCell ?_ (.inr GW107.out) _) | exact HK.out)).1) hk)))); (case aO => exact (by (with_reducible repeat (first | apply Kd.R_alloc | apply Kd.R_drewN | apply Kd.R_drew)); exact HO_0.out)); (case aS => exact (below_size (by repeat (first | (with_reducible first | exact HB.out | apply below_alloc | apply pw_below_drewN | apply below_drew1 | refine below_set ?_ GE107.out) | exact HB.out)))); (case aL => have := LMc30.out; omega); intro v121 w39 ho hb hg hat; rw [← Ny120.out] at ho; have n0_ := Aside0.mk (blk_grown (g := gb107) (o := .cells #[.int .i64 a1_0, .int .i64 a1_1, .string a1_2] 33 (0, 0)) (by (with_reducible repeat (first | refine blk_drewN ?_ _ | refine blk_drew ?_ | refine blk_alloc ?_ _)); exact BK107.out) hg (Kd.R_ne HO_0.out BK107.out (by decide))); have n1_ := Aside0.mk (hb); have n2_ := Aside0.mk (Kept.of_grown (S := (fun k_ => P0_ k_)) hg (by repeat (first | (with_reducible first | exact HK.out | apply Kept.alloc | apply Kept.drewN | apply Kept.drew | refine Kept.setCell ?_ (.inr GW107.out) _) | exact HK.out)) (fun k_ e_ => (HO_0.out.1 k_ e_))); have n3_ := Aside0.mk (ho); clear BK107; clear HB; clear HK; clear HO_0; have BK107 := n0_; have HB := n1_; have HK := n2_; have HO122 := n3_; clear n0_ n1_ n2_ n3_; clear ho hb hg hat; have hcz40_0 : w39.cell? ⟨gb107, 0, none⟩ = some (.int .i64 a1_0) := (blk_cell BK107.out 0).trans rfl; have hcz40_1 : w39.cell? ⟨gb107, 1, none⟩ = some (.int .i64 a1_1) := (blk_cell BK107.out 1).trans rfl; have hcz40_2 : w39.cell? ⟨gb107, 2, none⟩ = some (.string a1_2) := (blk_cell BK107.out 2).trans rfl; have hfz40_0 := blk_frozen BK107.out 0; have hfz40_1 := blk_frozen BK107.out 1; have hfz40_2 := blk_frozen BK107.out 2; have p31 : 0 ≤ (x47_1 : Int) := of_decide_eq_true (by first | (with_reducible assumption) | assumption); have q31 : x47_1 < (a1_2.size : Int) := of_decide_eq_true (by first | (with_reducible assumption) | assumption); have hx31 := bt_at a1_2 x47_1; replace p31 := eq_true p31; replace q31 := eq_true q31))
                        go_roundg k1
                        case measure => have := HK1.out; omega
                        case rel => exact ⟨(y120), (wrap64 (x47_1 + 1)), (by first | rfl | (simp; done) | (simp [*]; done)), H', ⟨by have := HK1.out; omega⟩, ⟨by (with_reducible repeat (first | apply Kd.R_alloc | apply Kd.R_drewN | apply Kd.R_drew)); exact HO122.out⟩, ⟨by (with_reducible repeat (first | refine blk_drewN ?_ _ | refine blk_drew ?_ | refine blk_alloc ?_ _)); exact BK107.out⟩, ⟨by repeat (first | (with_reducible first | exact HK.out | apply Kept.alloc | apply Kept.drewN | apply Kept.drew | refine Kept.setCell ?_ (.inr GW107.out) _) | exact HK.out)⟩, ⟨by repeat (first | (with_reducible first | exact HB.out | apply below_alloc | apply pw_below_drewN | apply below_drew1 | refine below_set ?_ GE107.out) | exact HB.out)⟩⟩
                    · rw [if_neg c30] at H
                      exact absurd H (by simp)
                  · rw [if_neg c28] at H
                    exact absurd H (by simp)
                · rw [if_neg c27] at H
                  exact absurd H (by simp)
              · rw [if_neg c26] at H
                have c26b0 : decide (x47_1 < (a1_2.size : Int)) = false := decide_eq_false c26
                clear c26
                obtain ⟨y126, hy126⟩ : ∃ y_ : List Int, y_ = (([0, 0] : List Int)) := ⟨_, rfl⟩
                replace H : (if x0_1.length + y126.length < 140737488355328 then (some (x0_1 ++ y126)) else (none)) = some r := by first | (rw [hy126]; with_reducible exact H) | (have H2_ := (Option.bind_some _ _).symm.trans H; rw [hy126]; with_reducible exact H2_) | (have H2_ := (Option.bind_some _ _).symm.trans H; with_reducible exact H2_) | with_reducible exact H | (rw [hy126]; exact H) | exact H
                have Ny126 := Aside0.mk hy126
                clear hy126
                by_cases c41 : x0_1.length + y126.length < 140737488355328
                · rw [if_pos c41] at H
                  have LMc41 := Aside0.mk c41
                  clear c41
                  obtain ⟨y129, hy129⟩ : ∃ y_ : List Int, y_ = (x0_1 ++ y126) := ⟨_, rfl⟩
                  replace H : (some y129) = some r := by first | (rw [hy129]; with_reducible exact H) | (have H2_ := (Option.bind_some _ _).symm.trans H; rw [hy129]; with_reducible exact H2_) | (have H2_ := (Option.bind_some _ _).symm.trans H; with_reducible exact H2_) | with_reducible exact H | (rw [hy129]; exact H) | exact H
                  have Ny129 := Aside0.mk hy129
                  clear hy129
                  obtain rfl := Option.some.inj H
                  go_wp2_with (first | ((with_reducible refine gate_dst (N := 67) rfl ?_); refine Kd.R_lit (Kd.int .u8) _ 5 ?hg (N := 67) ?hd (xs := ([0, 0] : List Int)) (inner := [.int .u8 0, .int .u8 0]) (ok := fun _ => True) (okp := fun _ => True) ?hr ?hp (fun _ hk => hk) trivial (Below.refl _ _) (Nat.le_refl _) (by simp) ?_; (case hd => rfl); (case hg => rfl); (case hr => first | (go_simp; done) | (go_simp; rfl)); (case hp => exact (Reps.one (show Kd.M (Kd.int .u8) _ _ _ 0 [.int .u8 0] from rfl) (Reps.one (show Kd.M (Kd.int .u8) _ _ _ 0 [.int .u8 0] from rfl) (Reps.none _ _)))); intro v127 w42 ho43 hb hg_ hnew_; clear hg_ hnew_; (first | rw [← Ny126.out] at ho43 | (simp only [Int.reduceToNat] at ho43; rw [← Ny126.out] at ho43)); have n0_ := Aside0.mk (Kd.R_elder' (by (with_reducible repeat (first | apply Kd.R_alloc | apply Kd.R_drewN | apply Kd.R_drew)); exact HO_0.out) (Kd.R_base ho43) hb); have n1_ := Aside0.mk (Kd.R_lower (Kd.R_new' (Kd.R_newM (M := fun k_ => (P0_ k_ ∨ w.heap.size ≤ k_)) ho43 (by first | exact HK.out.1 | exact (show Kept w _ (fun k_ => P0_ k_) from by repeat (first | (with_reducible first | exact HK.out | apply Kept.alloc | apply Kept.drewN | apply Kept.drew | refine Kept.setCell ?_ (.inr GW107.out) _) | exact HK.out)).1) (fun k_ h_ => .inr h_)) (Kd.R_lt (by (with_reducible repeat (first | apply Kd.R_alloc | apply Kd.R_drewN | apply Kd.R_drew)); exact HO_0.out))) (below_size (by repeat (first | (with_reducible first | exact HB.out | apply below_alloc | apply pw_below_drewN | apply below_drew1 | refine below_set ?_ GE107.out) | exact HB.out)))); have n2_ := Aside0.mk (blk_below (g := gb107) (o := .cells #[.int .i64 a1_0, .int .i64 a1_1, .string a1_2] 33 (0, 0)) (by (with_reducible repeat (first | refine blk_drewN ?_ _ | refine blk_drew ?_ | refine blk_alloc ?_ _)); exact BK107.out) hb); have n3_ := Aside0.mk (Kept.below (S := (fun k_ => P0_ k_)) (by repeat (first | (with_reducible first | exact HK.out | apply Kept.alloc | apply Kept.drewN | apply Kept.drew | refine Kept.setCell ?_ (.inr GW107.out) _) | exact HK.out)) hb); have n4_ := Aside0.mk (below_step (by repeat (first | (with_reducible first | exact HB.out | apply below_alloc | apply pw_below_drewN | apply below_drew1 | refine below_set ?_ GE107.out) | exact HB.out)) hb); clear HO_0; clear BK107; clear HK; clear HB; have HO_0 := n0_; have HO128 := n1_; have BK107 := n2_; have HK := n3_; have HB := n4_; clear n0_ n1_ n2_ n3_ n4_; clear hb ho43; obtain ⟨Ao45, co45, eo45⟩ := Kd.R_slice HO128.out; subst eo45) | ((with_reducible refine gate_builtin (b := .append) (xs := #[.tmp 66, .tmp 67]) rfl ?_); at_builtin; refine Kd.R_append_rows (Kd.int .u8) (w0 := w0) w0.heap.size rfl (.tmp 66) (.tmp 67) 77 5 (.int .u8 0) 1 rfl Try.underlying77 info5 rfl (by decide) (by omega) u0 x0_1 y126 _ _ _ (fun k_ => (P0_ k_ ∨ w.heap.size ≤ k_) ∧ some k_ ≠ (.slice Ao45 y126.length co45 : Value).ownBlock) (fun _ => False) rfl rfl ?aO ?aR (fun _ _ h => h) (fun _ h => h.elim) ?aF ?aB ?aS ?aL ?_; (case aR => repeat (first | exact (Kd.R_reads' HO128.out).2.2 | (with_reducible refine Kd.C_alloc ?_ _) | (with_reducible refine Kd.C_drewN ?_ _) | (with_reducible refine Kd.C_drew ?_))); (case aB => exact (by repeat (first | (with_reducible first | exact HB.out | apply below_alloc | apply pw_below_drewN | apply below_drew1 | refine below_set ?_ GE107.out) | exact HB.out))); (case aF => exact (fun k_ hk => ⟨(.inr (Nat.le_trans (by first | exact HK.out.1 | exact (show Kept w _ (fun k_ => P0_ k_) from by repeat (first | (with_reducible first | exact HK.out | apply Kept.alloc | apply Kept.drewN | apply Kept.drew | refine Kept.setCell ?_ (.inr GW107.out) _) | exact HK.out)).1) hk)), Kd.fresh' (Kd.R_lt (by (with_reducible repeat (first | apply Kd.R_alloc | apply Kd.R_drewN | apply Kd.R_drew)); exact HO128.out)) k_ hk⟩)); (case aO => exact (by (with_reducible repeat (first | apply Kd.R_alloc | apply Kd.R_drewN | apply Kd.R_drew)); exact HO_0.out)); (case aS => exact (below_size (by repeat (first | (with_reducible first | exact HB.out | apply below_alloc | apply pw_below_drewN | apply below_drew1 | refine below_set ?_ GE107.out) | exact HB.out)))); (case aL => have := LMc41.out; omega); intro v130 w44 ho hb hg hat; rw [← Ny129.out] at ho; have n0_ := Aside0.mk (blk_grown (g := gb107) (o := .cells #[.int .i64 a1_0, .int .i64 a1_1, .string a1_2] 33 (0, 0)) (by (with_reducible repeat (first | refine blk_drewN ?_ _ | refine blk_drew ?_ | refine blk_alloc ?_ _)); exact BK107.out) hg (Kd.R_ne HO_0.out BK107.out (by decide))); have n1_ := Aside0.mk (Kd.R_after (ok := (fun k_ => (P0_ k_ ∨ w.heap.size ≤ k_))) (by (with_reducible repeat (first | apply Kd.R_alloc | apply Kd.R_drewN | apply Kd.R_drew)); exact Kd.R_mono HO128.out (fun _ hk => ⟨hk.1.1, hk.2⟩)) hg hat); have n2_ := Aside0.mk (hb); have n3_ := Aside0.mk (Kept.of_grown (S := (fun k_ => P0_ k_)) hg (by repeat (first | (with_reducible first | exact HK.out | apply Kept.alloc | apply Kept.drewN | apply Kept.drew | refine Kept.setCell ?_ (.inr GW107.out) _) | exact HK.out)) (fun k_ e_ => (HO_0.out.1 k_ e_).1)); have n4_ := Aside0.mk (ho); clear BK107; clear HO128; clear HB; clear HK; clear HO_0; have BK107 := n0_; have HO128 := n1_; have HB := n2_; have HK := n3_; have HO131 := n4_; clear n0_ n1_ n2_ n3_ n4_; clear ho hb hg hat))
                  go_ret
                  exact ⟨_, by first | rfl | (simp [errW_none, errW_some] <;> rfl) | (simp [*, errW_none, errW_some] <;> rfl), by (with_reducible repeat (first | apply Kd.R_alloc | apply Kd.R_drewN | apply Kd.R_drew)); exact Kd.R_mono HO131.out (fun _ hk => hk.1), by repeat (first | (with_reducible first | exact HB.out | apply below_alloc | apply pw_below_drewN | apply below_drew1 | refine below_set ?_ GE107.out) | exact HB.out), by repeat (first | (with_reducible first | exact HK.out | apply Kept.alloc | apply Kept.drewN | apply Kept.drew | refine Kept.setCell ?_ (.inr GW107.out) _) | exact HK.out)⟩
                · rw [if_neg c41] at H
                  exact absurd H (by simp)
        · rw [if_neg c21] at H
          exact absurd H (by simp)
      · rw [if_neg c20] at H
        have c20b0 : (a1_0 == 3) = false := beq_eq_false_iff_ne.mpr c20
        have c20b1 : (a1_0 != 3) = true := bne_iff_ne.mpr c20
        by_cases c46 : l0.length < 140737488355328
        · rw [if_pos c46] at H
          have LMc46 := Aside0.mk c46
          clear c46
          obtain ⟨y132, hy132⟩ : ∃ y_ : List Int, y_ = (l0 ++ [1]) := ⟨_, rfl⟩
          replace H : (some y132) = some r := by first | (rw [hy132]; with_reducible exact H) | (have H2_ := (Option.bind_some _ _).symm.trans H; rw [hy132]; with_reducible exact H2_) | (have H2_ := (Option.bind_some _ _).symm.trans H; with_reducible exact H2_) | with_reducible exact H | (rw [hy132]; exact H) | exact H
          have Ny132 := Aside0.mk hy132
          clear hy132
          obtain rfl := Option.some.inj H
          go_enter Try.func72, Try.ntmps72
          go_wp2_with (first | ((with_reducible refine gate_dst (N := 3) rfl ?_); refine box_event ?hg (N := 3) ?hd (cs := #[.int .i64 a1_0, .int .i64 a1_1, .string a1_2]) (t := 33) ?hr ?_; (case hd => rfl); (case hg => rfl); (case hr => first | (go_simp; done) | (go_simp; rfl)); intro gb107 hg w47 hbox hb; have n0_ := Aside0.mk (Kd.R_below (by (with_reducible repeat (first | apply Kd.R_alloc | apply Kd.R_drewN | apply Kd.R_drew)); exact HO0.out) hb); have n1_ := Aside0.mk (Kept.below (S := (fun k_ => P0_ k_)) (by repeat (first | (with_reducible first | exact HK.out | apply Kept.alloc | apply Kept.drewN | apply Kept.drew) | exact HK.out)) hb); have n2_ := Aside0.mk (below_step (by repeat (first | (with_reducible first | exact HB.out | apply below_alloc | apply pw_below_drewN | apply below_drew1) | exact HB.out)) hb); have n3_ := Aside0.mk (hbox); have n4_ := Aside0.mk ((by rw [hg]; exact (by first | exact HK.out.1 | exact (show Kept w _ (fun k_ => P0_ k_) from by repeat (first | (with_reducible first | exact HK.out | apply Kept.alloc | apply Kept.drewN | apply Kept.drew) | exact HK.out)).1) : w.heap.size ≤ gb107)); have n5_ := Aside0.mk ((by rw [hg]; exact (below_size (by repeat (first | (with_reducible first | exact HB.out | apply below_alloc | apply pw_below_drewN | apply below_drew1) | exact HB.out))) : w0.heap.size ≤ gb107)); clear HO0; clear HK; clear HB; have HO0 := n0_; have HK := n1_; have HB := n2_; have BK107 := n3_; have GW107 := n4_; have GE107 := n5_; clear n0_ n1_ n2_ n3_ n4_ n5_; clear hb hbox hg; have hcz48_0 : w47.cell? ⟨gb107, 0, none⟩ = some (.int .i64 a1_0) := (blk_cell BK107.out 0).trans rfl; have hcz48_1 : w47.cell? ⟨gb107, 1, none⟩ = some (.int .i64 a1_1) := (blk_cell BK107.out 1).trans rfl; have hcz48_2 : w47.cell? ⟨gb107, 2, none⟩ = some (.string a1_2) := (blk_cell BK107.out 2).trans rfl; have hfz48_0 := blk_frozen BK107.out 0; have hfz48_1 := blk_frozen BK107.out 1; have hfz48_2 := blk_frozen BK107.out 2) | ((with_reducible refine gate_builtin (b := .append) (xs := #[.tmp 69, .tmp 70]) rfl ?_); at_builtin; refine Kd.R_append (Kd.int .u8) (w0 := w0) w0.heap.size rfl (.tmp 69) (.tmp 70) 77 5 (.int .u8 0) 1 rfl Try.underlying77 info5 rfl (by decide) (by omega) u9000_ l0 1 [.int .u8 1] (fun k_ => (P0_ k_ ∨ w.heap.size ≤ k_)) (fun _ => False) rfl rfl ?aP (fun _ hk => hk.elim) ?aF ?aO ?aB ?aS ?aL ?_; (case aP => exact rfl); (case aB => exact (by repeat (first | (with_reducible first | exact HB.out | apply below_alloc | apply pw_below_drewN | apply below_drew1 | refine below_set ?_ GE107.out) | exact HB.out))); (case aF => exact (fun k_ hk => (.inr (Nat.le_trans (by first | exact HK.out.1 | exact (show Kept w _ (fun k_ => P0_ k_) from by repeat (first | (with_reducible first | exact HK.out | apply Kept.alloc | apply Kept.drewN | apply Kept.drew | refine Kept.setCell ?_ (.inr GW107.out) _) | exact HK.out)).1) hk)))); (case aO => exact (by (with_reducible repeat (first | apply Kd.R_alloc | apply Kd.R_drewN | apply Kd.R_drew)); exact HO0.out)); (case aS => exact (below_size (by repeat (first | (with_reducible first | exact HB.out | apply below_alloc | apply pw_below_drewN | apply below_drew1 | refine below_set ?_ GE107.out) | exact HB.out)))); (case aL => have := LMc46.out; omega); intro v133 w49 ho hb hg hat; rw [← Ny132.out] at ho; have n0_ := Aside0.mk (blk_grown (g := gb107) (o := .cells #[.int .i64 a1_0, .int .i64 a1_1, .string a1_2] 33 (0, 0)) (by (with_reducible repeat (first | refine blk_drewN ?_ _ | refine blk_drew ?_ | refine blk_alloc ?_ _)); exact BK107.out) hg (Kd.R_ne HO0.out BK107.out (by decide))); have n1_ := Aside0.mk (hb); have n2_ := Aside0.mk (Kept.of_grown (S := (fun k_ => P0_ k_)) hg (by repeat (first | (with_reducible first | exact HK.out | apply Kept.alloc | apply Kept.drewN | apply Kept.drew | refine Kept.setCell ?_ (.inr GW107.out) _) | exact HK.out)) (fun k_ e_ => (HO0.out.1 k_ e_))); have n3_ := Aside0.mk (ho); clear BK107; clear HB; clear HK; clear HO0; have BK107 := n0_; have HB := n1_; have HK := n2_; have HO134 := n3_; clear n0_ n1_ n2_ n3_; clear ho hb hg hat))
          go_ret
          exact ⟨_, by first | rfl | (simp [errW_none, errW_some] <;> rfl) | (simp [*, errW_none, errW_some] <;> rfl), by (with_reducible repeat (first | apply Kd.R_alloc | apply Kd.R_drewN | apply Kd.R_drew)); exact HO134.out, by repeat (first | (with_reducible first | exact HB.out | apply below_alloc | apply pw_below_drewN | apply below_drew1 | refine below_set ?_ GE107.out) | exact HB.out), by repeat (first | (with_reducible first | exact HK.out | apply Kept.alloc | apply Kept.drewN | apply Kept.drew | refine Kept.setCell ?_ (.inr GW107.out) _) | exact HK.out)⟩
        · rw [if_neg c46] at H
          exact absurd H (by simp)
mutual
def code_Encode.l0 : Nat → List (S33) → List (S33) → Int → Int → Option (ByteArray × Int)
  | 0, _, _, _, _ => none
  | k + 1, x0, x10, x11, x12 => if x12 < x11 then (if 0 ≤ x12 then (if x12 < (x10.length : Int) then ((value_Right.f k ((rd_T33 x10 x12).f0) ((rd_T33 x10 x12).f1) ((rd_T33 x10 x12).f2)).bind fun t137 => (if t137 = 0 then (code_Encode.l0 k x0 x10 x11 (wrap64 (x12 + 1))) else (some ((⟨#[]⟩ : ByteArray), t137)))) else (none)) else (none)) else (if (x0.length : Int) > 40 then (some ((⟨#[]⟩ : ByteArray), 8)) else (code_Encode.l1 k ([] : List Int) x0 (x0.length : Int) 0))
def code_Encode.l1 : Nat → List Int → List (S33) → Int → Int → Option (ByteArray × Int)
  | 0, _, _, _, _ => none
  | k + 1, x4, x25, x26, x27 => if x27 < x26 then (if 0 ≤ x27 then (if x27 < (x25.length : Int) then ((code_put.f k x4 ((rd_T33 x25 x27).f0) ((rd_T33 x25 x27).f1) ((rd_T33 x25 x27).f2)).bind fun t140 => (code_Encode.l1 k t140 x25 x26 (wrap64 (x27 + 1)))) else (none)) else (none)) else (some (strOfNums x4, 0))
end
def code_Encode.f (k : Nat) (l0 : List (S33)) : Option (ByteArray × Int) := code_Encode.l0 k l0 l0 (l0.length : Int) 0
set_option maxHeartbeats 8000000 in
set_option maxRecDepth 100000 in
theorem code_Encode.calls (k : Nat) (A0 : Option Addr) (c0 : Nat) (l0 : List (S33)) (r1 : ByteArray) (r2 : Int) (w : World) (hr0 : Kd.C k33 w A0 l0.length l0) (hc0 : l0.length ≤ c0) (h : code_Encode.f k l0 = some (r1, r2)) :
    Calls Try.prog 21 #[.slice A0 l0.length c0] w fun e w' => e = .returned (.tuple #[.string r1, .int .i64 r2]) ∧ Below w.heap.size w w' := by
  have hu33 := Try.underlying33
  have HR0 := Aside0.mk hr0
  have HC0 := Aside0.mk hc0
  clear hr0 hc0
  have HB := Aside0.mk (Below.refl w.heap.size w)
  have H : (code_Encode.l0 k l0 l0 (l0.length : Int) 0) = some (r1, r2) := h
  clear h
  have H' := Aside0.mk H
  clear H
  go_enter Try.func21, Try.ntmps21
  go_wp2
  go_loopg [12] k (fun kq v12 w' => ∃ (x12_1 : Int), v12 = .int .i64 x12_1 ∧ Aside0 (code_Encode.l0 kq l0 l0 (l0.length : Int) x12_1 = some (r1, r2)) ∧ Aside0 (kq ≤ k) ∧ Aside0 (Below w.heap.size w w'))
  case atStart => exact ⟨(0), (by first | rfl | (simp; done) | (simp [*]; done)), H', ⟨Nat.le_refl _⟩, ⟨by repeat (first | (with_reducible first | exact HB.out | apply below_alloc | apply pw_below_drewN | apply below_drew1) | exact HB.out)⟩⟩
  case round =>
    clear H'
    obtain ⟨x12_1, rfl, HA, HK1, HB⟩ := hrel
    cases gk with
    | zero => exact absurd HA.out (by simp [code_Encode.l0])
    | succ k1 =>
      have H := HA.out
      clear HA
      simp only [code_Encode.l0] at H
      by_cases c2 : x12_1 < (l0.length : Int)
      · rw [if_pos c2] at H
        have c2b0 : decide (x12_1 < (l0.length : Int)) = true := decide_eq_true c2
        clear c2
        by_cases c3 : 0 ≤ x12_1
        · rw [if_pos c3] at H
          have c3b0 : decide (0 ≤ x12_1) = true := decide_eq_true c3
          clear c3
          by_cases c4 : x12_1 < (l0.length : Int)
          · rw [if_pos c4] at H
            have c4b0 : decide (x12_1 < (l0.length : Int)) = true := decide_eq_true c4
            clear c4
            replace H := Option.bind_eq_some_iff.mp H
            obtain ⟨t137, A50, H⟩ := H
            replace H : (if t137 = 0 then (code_Encode.l0 k1 l0 l0 (l0.length : Int) (wrap64 (x12_1 + 1))) else (some ((⟨#[]⟩ : ByteArray), t137))) = some (r1, r2) := H
            have A5 := Aside0.mk A50
            clear A50
            by_cases c6 : t137 = 0
            · rw [if_pos c6] at H
              have c6b0 : (t137 == 0) = true := beq_iff_eq.mpr c6
              have c6b1 : (t137 != 0) = false := bne_eq_false_iff_eq.mpr c6
              clear c6
              have H' := Aside0.mk H
              clear H
              have p135 : 0 ≤ (x12_1 : Int) := of_decide_eq_true (by first | (with_reducible assumption) | assumption)
              have q135 : x12_1 < (l0.length : Int) := of_decide_eq_true (by first | (with_reducible assumption) | assumption)
              obtain ⟨ad135, e135, hx135_0, hx135_1, hx135_2⟩ := at_T33 HR0.out x12_1 p135 q135
              cases e135
              replace hx135_0 := (HB.out.cell (World.block_lt_of_cell? w _ hx135_0)).trans hx135_0
              replace hx135_1 := (HB.out.cell (World.block_lt_of_cell? w _ hx135_1)).trans hx135_1
              replace hx135_2 := (HB.out.cell (World.block_lt_of_cell? w _ hx135_2)).trans hx135_2
              replace p135 := eq_true p135
              replace q135 := eq_true q135
              go_wp2_with (first | ((with_reducible refine gate_dst (N := 6) rfl ?_); refine box_event ?hg (N := 6) ?hd (cs := #[.int .i64 0, .int .i64 0, .string (⟨#[]⟩ : ByteArray)]) (t := 33) ?hr ?_; (case hd => rfl); (case hg => rfl); (case hr => first | (go_simp; done) | (go_simp; rfl)); intro gb136 hg w7 hbox hb; have n0_ := Aside0.mk (below_step (by repeat (first | (with_reducible first | exact HB.out | apply below_alloc | apply pw_below_drewN | apply below_drew1) | exact HB.out)) hb); have n1_ := Aside0.mk (hbox); have n2_ := Aside0.mk ((by rw [hg]; exact (below_size (by repeat (first | (with_reducible first | exact HB.out | apply below_alloc | apply pw_below_drewN | apply below_drew1) | exact HB.out))) : w.heap.size ≤ gb136)); have n3_ := Aside0.mk ((by rw [hg]; exact (below_size (by repeat (first | (with_reducible first | exact HB.out | apply below_alloc | apply pw_below_drewN | apply below_drew1) | exact HB.out))) : w.heap.size ≤ gb136)); clear HB; have HB := n0_; have BK136 := n1_; have GW136 := n2_; have GE136 := n3_; clear n0_ n1_ n2_ n3_; clear hb hbox hg; have hcz8_0 : w7.cell? ⟨gb136, 0, none⟩ = some (.int .i64 0) := (blk_cell BK136.out 0).trans rfl; have hcz8_1 : w7.cell? ⟨gb136, 1, none⟩ = some (.int .i64 0) := (blk_cell BK136.out 1).trans rfl; have hcz8_2 : w7.cell? ⟨gb136, 2, none⟩ = some (.string (⟨#[]⟩ : ByteArray)) := (blk_cell BK136.out 2).trans rfl; have hfz8_0 := blk_frozen BK136.out 0; have hfz8_1 := blk_frozen BK136.out 1; have hfz8_2 := blk_frozen BK136.out 2) | ((with_reducible refine gate_callee (f := 39) rfl ?_); refine goesL_ (some 17) rfl rfl Try.func39 (by kernel_rfl) rfl #[.agg #[.int .i64 ((rd_T33 l0 x12_1).f0), .int .i64 ((rd_T33 l0 x12_1).f1), .string ((rd_T33 l0 x12_1).f2)]] rfl (by (try simp only [List.map_toArray, List.map_cons, List.map_nil]); first | done | rfl | (simp only [List.length_drop, List.length_take]; rfl)) ?_; (with_reducible refine (value_Right.calls k1 ((rd_T33 l0 x12_1).f0) ((rd_T33 l0 x12_1).f1) ((rd_T33 l0 x12_1).f2) t137 _ A5.out).mono ?_); rintro e w9 ⟨rfl, hb⟩; refine ⟨_, rfl, ?_⟩; have n0_ := Aside0.mk (blk_below (g := gb136) (o := .cells #[.int .i64 ((rd_T33 l0 x12_1).f0), .int .i64 ((rd_T33 l0 x12_1).f1), .string ((rd_T33 l0 x12_1).f2)] 33 (0, 0)) (by (with_reducible repeat (first | refine blk_drewN ?_ _ | refine blk_drew ?_ | refine blk_alloc ?_ _)); refine blk_put (cs := #[.int .i64 ((rd_T33 l0 x12_1).f0), .int .i64 ((rd_T33 l0 x12_1).f1), .string (⟨#[]⟩ : ByteArray)]) ?_ 2 _ rfl; (with_reducible repeat (first | refine blk_drewN ?_ _ | refine blk_drew ?_ | refine blk_alloc ?_ _)); refine blk_put (cs := #[.int .i64 ((rd_T33 l0 x12_1).f0), .int .i64 0, .string (⟨#[]⟩ : ByteArray)]) ?_ 1 _ rfl; (with_reducible repeat (first | refine blk_drewN ?_ _ | refine blk_drew ?_ | refine blk_alloc ?_ _)); refine blk_put (cs := #[.int .i64 0, .int .i64 0, .string (⟨#[]⟩ : ByteArray)]) ?_ 0 _ rfl; (with_reducible repeat (first | refine blk_drewN ?_ _ | refine blk_drew ?_ | refine blk_alloc ?_ _)); exact BK136.out) hb); have n1_ := Aside0.mk (below_step (by repeat (first | (with_reducible first | exact HB.out | apply below_alloc | apply pw_below_drewN | apply below_drew1 | refine below_set ?_ GE136.out) | exact HB.out)) hb); clear BK136; clear HB; have BK136 := n0_; have HB := n1_; clear n0_ n1_; (try clear hb); (try clear hb2); (try clear hk); (try clear hi)))
              go_roundg k1
              case measure => have := HK1.out; omega
              case rel => exact ⟨(wrap64 (x12_1 + 1)), (by first | rfl | (simp; done) | (simp [*]; done)), H', ⟨by have := HK1.out; omega⟩, ⟨by repeat (first | (with_reducible first | exact HB.out | apply below_alloc | apply pw_below_drewN | apply below_drew1 | refine below_set ?_ GE136.out) | exact HB.out)⟩⟩
            · rw [if_neg c6] at H
              have c6b0 : (t137 == 0) = false := beq_eq_false_iff_ne.mpr c6
              have c6b1 : (t137 != 0) = true := bne_iff_ne.mpr c6
              simp only [Option.some.injEq, Prod.mk.injEq] at H
              obtain ⟨rfl, rfl⟩ := H
              have p135 : 0 ≤ (x12_1 : Int) := of_decide_eq_true (by first | (with_reducible assumption) | assumption)
              have q135 : x12_1 < (l0.length : Int) := of_decide_eq_true (by first | (with_reducible assumption) | assumption)
              obtain ⟨ad135, e135, hx135_0, hx135_1, hx135_2⟩ := at_T33 HR0.out x12_1 p135 q135
              cases e135
              replace hx135_0 := (HB.out.cell (World.block_lt_of_cell? w _ hx135_0)).trans hx135_0
              replace hx135_1 := (HB.out.cell (World.block_lt_of_cell? w _ hx135_1)).trans hx135_1
              replace hx135_2 := (HB.out.cell (World.block_lt_of_cell? w _ hx135_2)).trans hx135_2
              replace p135 := eq_true p135
              replace q135 := eq_true q135
              go_wp2_with (first | ((with_reducible refine gate_dst (N := 6) rfl ?_); refine box_event ?hg (N := 6) ?hd (cs := #[.int .i64 0, .int .i64 0, .string (⟨#[]⟩ : ByteArray)]) (t := 33) ?hr ?_; (case hd => rfl); (case hg => rfl); (case hr => first | (go_simp; done) | (go_simp; rfl)); intro gb136 hg w10 hbox hb; have n0_ := Aside0.mk (below_step (by repeat (first | (with_reducible first | exact HB.out | apply below_alloc | apply pw_below_drewN | apply below_drew1) | exact HB.out)) hb); have n1_ := Aside0.mk (hbox); have n2_ := Aside0.mk ((by rw [hg]; exact (below_size (by repeat (first | (with_reducible first | exact HB.out | apply below_alloc | apply pw_below_drewN | apply below_drew1) | exact HB.out))) : w.heap.size ≤ gb136)); have n3_ := Aside0.mk ((by rw [hg]; exact (below_size (by repeat (first | (with_reducible first | exact HB.out | apply below_alloc | apply pw_below_drewN | apply below_drew1) | exact HB.out))) : w.heap.size ≤ gb136)); clear HB; have HB := n0_; have BK136 := n1_; have GW136 := n2_; have GE136 := n3_; clear n0_ n1_ n2_ n3_; clear hb hbox hg; have hcz11_0 : w10.cell? ⟨gb136, 0, none⟩ = some (.int .i64 0) := (blk_cell BK136.out 0).trans rfl; have hcz11_1 : w10.cell? ⟨gb136, 1, none⟩ = some (.int .i64 0) := (blk_cell BK136.out 1).trans rfl; have hcz11_2 : w10.cell? ⟨gb136, 2, none⟩ = some (.string (⟨#[]⟩ : ByteArray)) := (blk_cell BK136.out 2).trans rfl; have hfz11_0 := blk_frozen BK136.out 0; have hfz11_1 := blk_frozen BK136.out 1; have hfz11_2 := blk_frozen BK136.out 2) | ((with_reducible refine gate_callee (f := 39) rfl ?_); refine goesL_ (some 17) rfl rfl Try.func39 (by kernel_rfl) rfl #[.agg #[.int .i64 ((rd_T33 l0 x12_1).f0), .int .i64 ((rd_T33 l0 x12_1).f1), .string ((rd_T33 l0 x12_1).f2)]] rfl (by (try simp only [List.map_toArray, List.map_cons, List.map_nil]); first | done | rfl | (simp only [List.length_drop, List.length_take]; rfl)) ?_; (with_reducible refine (value_Right.calls k1 ((rd_T33 l0 x12_1).f0) ((rd_T33 l0 x12_1).f1) ((rd_T33 l0 x12_1).f2) t137 _ A5.out).mono ?_); rintro e w12 ⟨rfl, hb⟩; refine ⟨_, rfl, ?_⟩; have n0_ := Aside0.mk (blk_below (g := gb136) (o := .cells #[.int .i64 ((rd_T33 l0 x12_1).f0), .int .i64 ((rd_T33 l0 x12_1).f1), .string ((rd_T33 l0 x12_1).f2)] 33 (0, 0)) (by (with_reducible repeat (first | refine blk_drewN ?_ _ | refine blk_drew ?_ | refine blk_alloc ?_ _)); refine blk_put (cs := #[.int .i64 ((rd_T33 l0 x12_1).f0), .int .i64 ((rd_T33 l0 x12_1).f1), .string (⟨#[]⟩ : ByteArray)]) ?_ 2 _ rfl; (with_reducible repeat (first | refine blk_drewN ?_ _ | refine blk_drew ?_ | refine blk_alloc ?_ _)); refine blk_put (cs := #[.int .i64 ((rd_T33 l0 x12_1).f0), .int .i64 0, .string (⟨#[]⟩ : ByteArray)]) ?_ 1 _ rfl; (with_reducible repeat (first | refine blk_drewN ?_ _ | refine blk_drew ?_ | refine blk_alloc ?_ _)); refine blk_put (cs := #[.int .i64 0, .int .i64 0, .string (⟨#[]⟩ : ByteArray)]) ?_ 0 _ rfl; (with_reducible repeat (first | refine blk_drewN ?_ _ | refine blk_drew ?_ | refine blk_alloc ?_ _)); exact BK136.out) hb); have n1_ := Aside0.mk (below_step (by repeat (first | (with_reducible first | exact HB.out | apply below_alloc | apply pw_below_drewN | apply below_drew1 | refine below_set ?_ GE136.out) | exact HB.out)) hb); clear BK136; clear HB; have BK136 := n0_; have HB := n1_; clear n0_ n1_; (try clear hb); (try clear hb2); (try clear hk); (try clear hi)))
              go_ret2
              exact ⟨by first | rfl | (simp [errW_none, errW_some] <;> rfl) | (simp [*, errW_none, errW_some] <;> rfl), by repeat (first | (with_reducible first | exact HB.out | apply below_alloc | apply pw_below_drewN | apply below_drew1 | refine below_set ?_ GE136.out) | exact HB.out)⟩
          · rw [if_neg c4] at H
            exact absurd H (by simp)
        · rw [if_neg c3] at H
          exact absurd H (by simp)
      · rw [if_neg c2] at H
        have c2b0 : decide (x12_1 < (l0.length : Int)) = false := decide_eq_false c2
        clear c2
        by_cases c13 : (l0.length : Int) > 40
        · rw [if_pos c13] at H
          have c13b0 : decide (40 < (l0.length : Int)) = true := decide_eq_true c13
          have c13b1 : decide (40 < l0.length) = true := decide_eq_true (by omega)
          clear c13
          simp only [Option.some.injEq, Prod.mk.injEq] at H
          obtain ⟨rfl, rfl⟩ := H
          go_wp2
          go_ret2
          exact ⟨by first | rfl | (simp [errW_none, errW_some] <;> rfl) | (simp [*, errW_none, errW_some] <;> rfl), by repeat (first | (with_reducible first | exact HB.out | apply below_alloc | apply pw_below_drewN | apply below_drew1) | exact HB.out)⟩
        · rw [if_neg c13] at H
          have c13b0 : decide (40 < (l0.length : Int)) = false := decide_eq_false c13
          have c13b1 : decide (40 < l0.length) = false := decide_eq_false (by omega)
          clear c13
          have H' := Aside0.mk H
          clear H
          go_wp2
          go_loopg [4, 27] k1 (fun kq v4 v27 w' => ∃ (x4_2 : List Int) (x27_2 : Int), v27 = .int .i64 x27_2 ∧ Aside0 (code_Encode.l1 kq x4_2 l0 (l0.length : Int) x27_2 = some (r1, r2)) ∧ Aside0 (kq ≤ k1) ∧ Aside0 (Kd.R (Kd.int .u8) 5 w' w.heap.size (fun _ => True) v4 x4_2) ∧ Aside0 (Below w.heap.size w w'))
          case atStart => exact ⟨(([] : List Int)), (0), (by first | rfl | (simp; done) | (simp [*]; done)), H', ⟨Nat.le_refl _⟩, ⟨by first | exact Kd.R_nil _ _ _ _ _ | exact Kd.N_nil _ _ _ _ _ | exact Kd.V_nil _ _ _ _ _ | exact Kd.Q_nil _ _ _ _ _ | exact Kd.S_nil _ _ _ _ _⟩, ⟨by repeat (first | (with_reducible first | exact HB.out | apply below_alloc | apply pw_below_drewN | apply below_drew1) | exact HB.out)⟩⟩
          case round =>
            clear H'
            try clear c1
            try clear p1
            try clear q1
            try clear hx1
            try clear c2
            try clear c2b0
            try clear p2
            try clear c3
            try clear c3b0
            try clear c4
            try clear c4b0
            try clear c6
            try clear c6b0
            try clear c6b1
            try clear p6
            try clear c13
            try clear c13b0
            try clear c13b1
            try clear p13
            try clear q13
            try clear hx13
            try clear hcz11_0
            try clear hcz11_1
            try clear hcz11_2
            try clear hcz8_0
            try clear hcz8_1
            try clear hcz8_2
            try clear hfz11_0
            try clear hfz11_1
            try clear hfz11_2
            try clear hfz8_0
            try clear hfz8_1
            try clear hfz8_2
            try clear hx135_0
            try clear hx135_1
            try clear hx135_2
            try clear p135
            try clear q135
            obtain ⟨x4_2, x27_2, rfl, HA, HK2, HO_4, HB⟩ := hrel
            cases gk with
            | zero => exact absurd HA.out (by simp [code_Encode.l1])
            | succ k2 =>
              have H := HA.out
              clear HA
              simp only [code_Encode.l1] at H
              by_cases c14 : x27_2 < (l0.length : Int)
              · rw [if_pos c14] at H
                have c14b0 : decide (x27_2 < (l0.length : Int)) = true := decide_eq_true c14
                clear c14
                by_cases c15 : 0 ≤ x27_2
                · rw [if_pos c15] at H
                  have c15b0 : decide (0 ≤ x27_2) = true := decide_eq_true c15
                  clear c15
                  by_cases c16 : x27_2 < (l0.length : Int)
                  · rw [if_pos c16] at H
                    have c16b0 : decide (x27_2 < (l0.length : Int)) = true := decide_eq_true c16
                    clear c16
                    replace H := Option.bind_eq_some_iff.mp H
                    obtain ⟨t140, A170, H⟩ := H
                    replace H : (code_Encode.l1 k2 t140 l0 (l0.length : Int) (wrap64 (x27_2 + 1))) = some (r1, r2) := H
                    have A17 := Aside0.mk A170
                    clear A170
                    have H' := Aside0.mk H
                    clear H
                    have p138 : 0 ≤ (x27_2 : Int) := of_decide_eq_true (by first | (with_reducible assumption) | assumption)
                    have q138 : x27_2 < (l0.length : Int) := of_decide_eq_true (by first | (with_reducible assumption) | assumption)
                    obtain ⟨ad138, e138, hx138_0, hx138_1, hx138_2⟩ := at_T33 HR0.out x27_2 p138 q138
                    cases e138
                    replace hx138_0 := (HB.out.cell (World.block_lt_of_cell? w _ hx138_0)).trans hx138_0
                    replace hx138_1 := (HB.out.cell (World.block_lt_of_cell? w _ hx138_1)).trans hx138_1
                    replace hx138_2 := (HB.out.cell (World.block_lt_of_cell? w _ hx138_2)).trans hx138_2
                    replace p138 := eq_true p138
                    replace q138 := eq_true q138
                    go_wp2_with (first | ((with_reducible refine gate_dst (N := 9) rfl ?_); refine box_event ?hg (N := 9) ?hd (cs := #[.int .i64 0, .int .i64 0, .string (⟨#[]⟩ : ByteArray)]) (t := 33) ?hr ?_; (case hd => rfl); (case hg => rfl); (case hr => first | (go_simp; done) | (go_simp; rfl)); intro gb139 hg w18 hbox hb; have n0_ := Aside0.mk (Kd.R_below (by (with_reducible repeat (first | apply Kd.R_alloc | apply Kd.R_drewN | apply Kd.R_drew)); exact HO_4.out) hb); have n1_ := Aside0.mk (below_step (by repeat (first | (with_reducible first | exact HB.out | apply below_alloc | apply pw_below_drewN | apply below_drew1) | exact HB.out)) hb); have n2_ := Aside0.mk (hbox); have n3_ := Aside0.mk ((by rw [hg]; exact (below_size (by repeat (first | (with_reducible first | exact HB.out | apply below_alloc | apply pw_below_drewN | apply below_drew1) | exact HB.out))) : w.heap.size ≤ gb139)); have n4_ := Aside0.mk ((by rw [hg]; exact (below_size (by repeat (first | (with_reducible first | exact HB.out | apply below_alloc | apply pw_below_drewN | apply below_drew1) | exact HB.out))) : w.heap.size ≤ gb139)); clear HO_4; clear HB; have HO_4 := n0_; have HB := n1_; have BK139 := n2_; have GW139 := n3_; have GE139 := n4_; clear n0_ n1_ n2_ n3_ n4_; clear hb hbox hg; have hcz19_0 : w18.cell? ⟨gb139, 0, none⟩ = some (.int .i64 0) := (blk_cell BK139.out 0).trans rfl; have hcz19_1 : w18.cell? ⟨gb139, 1, none⟩ = some (.int .i64 0) := (blk_cell BK139.out 1).trans rfl; have hcz19_2 : w18.cell? ⟨gb139, 2, none⟩ = some (.string (⟨#[]⟩ : ByteArray)) := (blk_cell BK139.out 2).trans rfl; have hfz19_0 := blk_frozen BK139.out 0; have hfz19_1 := blk_frozen BK139.out 1; have hfz19_2 := blk_frozen BK139.out 2) | ((with_reducible refine gate_store (t := 33) (p := 9) rfl ?_); refine store_event (t := 33) (p := 9) (v := ?vo_w20) (w1 := (((w18.setCell ⟨gb139, 0, none⟩ (.int .i64 ((rd_T33 l0 x27_2).f0))).setCell ⟨gb139, 1, none⟩ (.int .i64 ((rd_T33 l0 x27_2).f1))).setCell ⟨gb139, 2, none⟩ (.string ((rd_T33 l0 x27_2).f2)))) ?hg ?ho ?hn ?hr ?_; (case ho => rfl); (case hg => rfl); (case hn => rfl); (case hr => first | (go_simp; done) | (go_simp; rfl)); intro w20 hw; have n0_ : Aside0 (Kd.R (Kd.int .u8) 5 w20 w.heap.size (fun _ => True) u4 x4_2) := ⟨(by rw [hw]; exact (by (with_reducible repeat (first | apply Kd.R_alloc | apply Kd.R_drewN | apply Kd.R_drew)); exact Kd.R_mono (Kd.R_far (p := ⟨gb139, 2, none⟩) (Kd.R_far (p := ⟨gb139, 1, none⟩) (Kd.R_far (p := ⟨gb139, 0, none⟩) (Kd.R_types HO_4.out BK139.out (by decide)) (fun _ hk => hk.2) (.int .i64 ((rd_T33 l0 x27_2).f0))) (fun _ hk => hk.2) (.int .i64 ((rd_T33 l0 x27_2).f1))) (fun _ hk => hk.2) (.string ((rd_T33 l0 x27_2).f2))) (fun _ hk => trivial)))⟩; have n1_ : Aside0 (w20.heap[gb139]? = some (.cells #[.int .i64 ((rd_T33 l0 x27_2).f0), .int .i64 ((rd_T33 l0 x27_2).f1), .string ((rd_T33 l0 x27_2).f2)] 33 (0, 0))) := ⟨(by rw [hw]; exact (by (with_reducible repeat (first | refine blk_drewN ?_ _ | refine blk_drew ?_ | refine blk_alloc ?_ _)); refine blk_put (cs := #[.int .i64 ((rd_T33 l0 x27_2).f0), .int .i64 ((rd_T33 l0 x27_2).f1), .string (⟨#[]⟩ : ByteArray)]) ?_ 2 _ rfl; (with_reducible repeat (first | refine blk_drewN ?_ _ | refine blk_drew ?_ | refine blk_alloc ?_ _)); refine blk_put (cs := #[.int .i64 ((rd_T33 l0 x27_2).f0), .int .i64 0, .string (⟨#[]⟩ : ByteArray)]) ?_ 1 _ rfl; (with_reducible repeat (first | refine blk_drewN ?_ _ | refine blk_drew ?_ | refine blk_alloc ?_ _)); refine blk_put (cs := #[.int .i64 0, .int .i64 0, .string (⟨#[]⟩ : ByteArray)]) ?_ 0 _ rfl; (with_reducible repeat (first | refine blk_drewN ?_ _ | refine blk_drew ?_ | refine blk_alloc ?_ _)); exact BK139.out))⟩; have n2_ : Aside0 (Below w.heap.size w w20) := ⟨(by rw [hw]; exact (by repeat (first | (with_reducible first | exact HB.out | apply below_alloc | apply pw_below_drewN | apply below_drew1 | refine below_set ?_ GE139.out) | exact HB.out)))⟩; clear hw; clear HO_4; clear BK139; clear HB; have HO_4 := n0_; have BK139 := n1_; have HB := n2_; clear n0_ n1_ n2_; have hcz21_0 : w20.cell? ⟨gb139, 0, none⟩ = some (.int .i64 ((rd_T33 l0 x27_2).f0)) := (blk_cell BK139.out 0).trans rfl; have hcz21_1 : w20.cell? ⟨gb139, 1, none⟩ = some (.int .i64 ((rd_T33 l0 x27_2).f1)) := (blk_cell BK139.out 1).trans rfl; have hcz21_2 : w20.cell? ⟨gb139, 2, none⟩ = some (.string ((rd_T33 l0 x27_2).f2)) := (blk_cell BK139.out 2).trans rfl; have hfz21_0 := blk_frozen BK139.out 0; have hfz21_1 := blk_frozen BK139.out 1; have hfz21_2 := blk_frozen BK139.out 2; obtain ⟨Ao22, co22, eo22⟩ := Kd.R_slice HO_4.out; subst eo22) | ((with_reducible refine gate_callee (f := 72) rfl ?_); refine goesL_ (some 33) rfl rfl Try.func72 (by kernel_rfl) rfl #[.slice Ao22 x4_2.length co22, .agg #[.int .i64 ((rd_T33 l0 x27_2).f0), .int .i64 ((rd_T33 l0 x27_2).f1), .string ((rd_T33 l0 x27_2).f2)]] rfl (by (try simp only [List.map_toArray, List.map_cons, List.map_nil]); first | done | rfl | (simp only [List.length_drop, List.length_take]; rfl)) ?_; (with_reducible refine (code_put.calls k2 (fun k_ => some k_ = (.slice Ao22 x4_2.length co22 : Value).ownBlock) (.slice Ao22 x4_2.length co22) x4_2 ((rd_T33 l0 x27_2).f0) ((rd_T33 l0 x27_2).f1) ((rd_T33 l0 x27_2).f2) t140 w _ ?side1 ?side2 A17.out).mono ?_); (case side1 => repeat (first | (with_reducible first | exact HB.out | apply below_alloc | apply pw_below_drewN | apply below_drew1 | refine below_set ?_ GE139.out) | exact HB.out)); (case side2 => exact Kd.R_tight rfl HO_4.out); rintro e w23 ⟨v141, rfl, ho0, hb, hkp⟩; refine ⟨_, rfl, ?_⟩; have n0_ := Aside0.mk (blk_kept (by (with_reducible repeat (first | refine blk_drewN ?_ _ | refine blk_drew ?_ | refine blk_alloc ?_ _)); exact BK139.out) hkp (fun hs_ => (fun e_ => (Kd.R_ne HO_4.out BK139.out (by decide)) e_) hs_)); have n1_ := Aside0.mk (Kd.R_mono (ok' := fun k_ => True) ho0 (fun k_ hk_ => trivial)); have n2_ := Aside0.mk (hb); clear BK139; clear HB; clear HO_4; have BK139 := n0_; have HO142 := n1_; have HB := n2_; clear n0_ n1_ n2_; (try clear hb); (try clear hkp); (try clear ho0)))
                    go_roundg k2
                    case measure => have := HK1.out; have := HK2.out; omega
                    case rel => exact ⟨(t140), (wrap64 (x27_2 + 1)), (by first | rfl | (simp; done) | (simp [*]; done)), H', ⟨by have := HK1.out; have := HK2.out; omega⟩, ⟨by (with_reducible repeat (first | apply Kd.R_alloc | apply Kd.R_drewN | apply Kd.R_drew)); exact HO142.out⟩, ⟨by repeat (first | (with_reducible first | exact HB.out | apply below_alloc | apply pw_below_drewN | apply below_drew1 | refine below_set ?_ GE139.out) | exact HB.out)⟩⟩
                  · rw [if_neg c16] at H
                    exact absurd H (by simp)
                · rw [if_neg c15] at H
                  exact absurd H (by simp)
              · rw [if_neg c14] at H
                have c14b0 : decide (x27_2 < (l0.length : Int)) = false := decide_eq_false c14
                clear c14
                simp only [Option.some.injEq, Prod.mk.injEq] at H
                obtain ⟨rfl, rfl⟩ := H
                have hcv24 := own_string (P := Try.prog) Try.underlying77 Try.underlying5 Try.underlying9 (Kd.own_of_R HO_4.out)
                go_wp2
                go_ret2
                exact ⟨by first | rfl | (simp [errW_none, errW_some] <;> rfl) | (simp [*, errW_none, errW_some] <;> rfl), by repeat (first | (with_reducible first | exact HB.out | apply below_alloc | apply pw_below_drewN | apply below_drew1) | exact HB.out)⟩
end Go.Proofs.Ythghflgmeepnlaa.Pa
end
section
namespace Go.Proofs.Ythghflgmeepnlaa.Pa
open Go.RowKit Go.Proofs.YthghflgmeepnlaaW.PrintWords Go.Proofs.YthghflgmeepnlaaW.PrintLast Go.Proofs.YthghflgmeepnlaaW.PrintMore
attribute [local go_sem] max2_int max_two
set_option linter.unusedVariables false
set_option linter.unusedSimpArgs false
mutual
def cordonlaw11_Few.l0 : Nat → List (List (List (S33))) → Int → Int → Option (Bool)
  | 0, _, _, _ => none
  | k + 1, x9, x10, x11 => if x11 < x10 then (if 0 ≤ x11 then (if x11 < (x9.length : Int) then (if ((rd_L5 x9 x11).length : Int) > 40 then (some false) else (cordonlaw11_Few.l1 k x9 x10 x11 (rd_L5 x9 x11) ((rd_L5 x9 x11).length : Int) 0)) else (none)) else (none)) else (some true)
def cordonlaw11_Few.l1 : Nat → List (List (List (S33))) → Int → Int → List (List (S33)) → Int → Int → Option (Bool)
  | 0, _, _, _, _, _, _ => none
  | k + 1, x9, x10, x11, x18, x19, x20 => if x20 < x19 then (if 0 ≤ x20 then (if x20 < (x18.length : Int) then (if ((rd_L4 x18 x20).length : Int) > 40 then (some false) else (cordonlaw11_Few.l2 k x9 x10 x11 x18 x19 x20 (rd_L4 x18 x20) ((rd_L4 x18 x20).length : Int) 0)) else (none)) else (none)) else (cordonlaw11_Few.l0 k x9 x10 (wrap64 (x11 + 1)))
def cordonlaw11_Few.l2 : Nat → List (List (List (S33))) → Int → Int → List (List (S33)) → Int → Int → List (S33) → Int → Int → Option (Bool)
  | 0, _, _, _, _, _, _, _, _, _ => none
  | k + 1, x9, x10, x11, x18, x19, x20, x27, x28, x29 => if x29 < x28 then (if 0 ≤ x29 then (if x29 < (x27.length : Int) then ((cordonlaw01_Right.f k ((rd_T33 x27 x29).f0) ((rd_T33 x27 x29).f1) ((rd_T33 x27 x29).f2)).bind fun t583 => (if t583 = true then (cordonlaw11_Few.l2 k x9 x10 x11 x18 x19 x20 x27 x28 (wrap64 (x29 + 1))) else (some false))) else (none)) else (none)) else (cordonlaw11_Few.l1 k x9 x10 x11 x18 x19 (wrap64 (x20 + 1)))
end
def cordonlaw11_Few.f (k : Nat) (l0 : List (List (List (S33)))) : Option (Bool) := cordonlaw11_Few.l0 k l0 (l0.length : Int) 0
theorem cordonlaw11_Few.mono_l : ∀ k, (∀ y0 y1 y2, LeO (cordonlaw11_Few.l0 k y0 y1 y2) (cordonlaw11_Few.l0 (k + 1) y0 y1 y2)) ∧ (∀ y0 y1 y2 y3 y4 y5, LeO (cordonlaw11_Few.l1 k y0 y1 y2 y3 y4 y5) (cordonlaw11_Few.l1 (k + 1) y0 y1 y2 y3 y4 y5)) ∧ (∀ y0 y1 y2 y3 y4 y5 y6 y7 y8, LeO (cordonlaw11_Few.l2 k y0 y1 y2 y3 y4 y5 y6 y7 y8) (cordonlaw11_Few.l2 (k + 1) y0 y1 y2 y3 y4 y5 y6 y7 y8))
  | 0 => ⟨fun _ _ _ r h => by simp [cordonlaw11_Few.l0] at h, fun _ _ _ _ _ _ r h => by simp [cordonlaw11_Few.l1] at h, fun _ _ _ _ _ _ _ _ _ r h => by simp [cordonlaw11_Few.l2] at h⟩
  | k + 1 => by
    obtain ⟨ih0, ih1, ih2⟩ := cordonlaw11_Few.mono_l k
    refine ⟨?_, ?_, ?_⟩
    · intro y0 y1 y2
      unfold cordonlaw11_Few.l0
      repeat' first
      | (with_reducible exact ih0 _ _ _)
      | (with_reducible exact ih1 _ _ _ _ _ _)
      | (with_reducible exact ih2 _ _ _ _ _ _ _ _ _)
      | (with_reducible exact cordonlaw01_Right.mono _ _ _ _)
      | (with_reducible exact LeO.refl _)
      | (with_reducible exact LeO.none _)
      | (with_reducible refine LeO.ite ?_ ?_)
      | (with_reducible refine LeO.bind ?_ (fun _ => ?_))
      | exact ih0 _ _ _
      | exact ih1 _ _ _ _ _ _
      | exact ih2 _ _ _ _ _ _ _ _ _
      | exact cordonlaw01_Right.mono _ _ _ _
      | exact LeO.none _
      | refine LeO.ite ?_ ?_
      | refine LeO.bind ?_ (fun _ => ?_)
    · intro y0 y1 y2 y3 y4 y5
      unfold cordonlaw11_Few.l1
      repeat' first
      | (with_reducible exact ih0 _ _ _)
      | (with_reducible exact ih1 _ _ _ _ _ _)
      | (with_reducible exact ih2 _ _ _ _ _ _ _ _ _)
      | (with_reducible exact cordonlaw01_Right.mono _ _ _ _)
      | (with_reducible exact LeO.refl _)
      | (with_reducible exact LeO.none _)
      | (with_reducible refine LeO.ite ?_ ?_)
      | (with_reducible refine LeO.bind ?_ (fun _ => ?_))
      | exact ih0 _ _ _
      | exact ih1 _ _ _ _ _ _
      | exact ih2 _ _ _ _ _ _ _ _ _
      | exact cordonlaw01_Right.mono _ _ _ _
      | exact LeO.none _
      | refine LeO.ite ?_ ?_
      | refine LeO.bind ?_ (fun _ => ?_)
    · intro y0 y1 y2 y3 y4 y5 y6 y7 y8
      unfold cordonlaw11_Few.l2
      repeat' first
      | (with_reducible exact ih0 _ _ _)
      | (with_reducible exact ih1 _ _ _ _ _ _)
      | (with_reducible exact ih2 _ _ _ _ _ _ _ _ _)
      | (with_reducible exact cordonlaw01_Right.mono _ _ _ _)
      | (with_reducible exact LeO.refl _)
      | (with_reducible exact LeO.none _)
      | (with_reducible refine LeO.ite ?_ ?_)
      | (with_reducible refine LeO.bind ?_ (fun _ => ?_))
      | exact ih0 _ _ _
      | exact ih1 _ _ _ _ _ _
      | exact ih2 _ _ _ _ _ _ _ _ _
      | exact cordonlaw01_Right.mono _ _ _ _
      | exact LeO.none _
      | refine LeO.ite ?_ ?_
      | refine LeO.bind ?_ (fun _ => ?_)
set_option maxHeartbeats 8000000 in
set_option maxRecDepth 100000 in
theorem cordonlaw11_Few.calls (k : Nat) (A0 : Option Addr) (c0 : Nat) (l0 : List (List (List (S33)))) (r : Bool) (w : World) (hr0 : Kd.C (Kd.slice 22 (Kd.slice 33 k33)) w A0 l0.length l0) (hc0 : l0.length ≤ c0) (h : cordonlaw11_Few.f k l0 = some r) :
    Calls Try.prog 54 #[.slice A0 l0.length c0] w fun e w' => e = .returned (.bool r) ∧ Below w.heap.size w w' := by
  have hu33 := Try.underlying33
  have HR0 := Aside0.mk hr0
  have HC0 := Aside0.mk hc0
  clear hr0 hc0
  have HB := Aside0.mk (Below.refl w.heap.size w)
  have H : (cordonlaw11_Few.l0 k l0 (l0.length : Int) 0) = some r := h
  clear h
  have H' := Aside0.mk H
  clear H
  go_enter Try.func54, Try.ntmps54
  go_wp2
  go_loopg [11] k (fun kq v11 w' => ∃ (x11_1 : Int), v11 = .int .i64 x11_1 ∧ Aside0 (cordonlaw11_Few.l0 kq l0 (l0.length : Int) x11_1 = some r) ∧ Aside0 (kq ≤ k) ∧ Aside0 (Below w.heap.size w w'))
  case atStart => exact ⟨(0), (by first | rfl | (simp; done) | (simp [*]; done)), H', ⟨Nat.le_refl _⟩, ⟨by repeat (first | (with_reducible first | exact HB.out | apply below_alloc | apply pw_below_drewN | apply below_drew1) | exact HB.out)⟩⟩
  case round =>
    clear H'
    obtain ⟨x11_1, rfl, HA, HK1, HB⟩ := hrel
    cases gk with
    | zero => exact absurd HA.out (by simp [cordonlaw11_Few.l0])
    | succ k1 =>
      have H := HA.out
      clear HA
      simp only [cordonlaw11_Few.l0] at H
      by_cases c2 : x11_1 < (l0.length : Int)
      · rw [if_pos c2] at H
        have c2b0 : decide (x11_1 < (l0.length : Int)) = true := decide_eq_true c2
        clear c2
        by_cases c3 : 0 ≤ x11_1
        · rw [if_pos c3] at H
          have c3b0 : decide (0 ≤ x11_1) = true := decide_eq_true c3
          clear c3
          by_cases c4 : x11_1 < (l0.length : Int)
          · rw [if_pos c4] at H
            have c4b0 : decide (x11_1 < (l0.length : Int)) = true := decide_eq_true c4
            clear c4
            by_cases c5 : ((rd_L5 l0 x11_1).length : Int) > 40
            · rw [if_pos c5] at H
              have c5b0 : decide (40 < ((rd_L5 l0 x11_1).length : Int)) = true := decide_eq_true c5
              have c5b1 : decide (40 < (rd_L5 l0 x11_1).length) = true := decide_eq_true (by omega)
              clear c5
              obtain rfl := Option.some.inj H
              have p579 : 0 ≤ (x11_1 : Int) := of_decide_eq_true (by first | (with_reducible assumption) | assumption)
              have q579 : x11_1 < (l0.length : Int) := of_decide_eq_true (by first | (with_reducible assumption) | assumption)
              obtain ⟨ad579, A579_0, c579_0, e579, hx579_0, hl579_0, hi579_0⟩ := at_L5 HR0.out x11_1 p579 q579
              cases e579
              replace hx579_0 := (HB.out.cell (World.block_lt_of_cell? w _ hx579_0)).trans hx579_0
              have HR579_0 := Aside0.mk hi579_0
              have HC579_0 := Aside0.mk hl579_0
              clear hi579_0 hl579_0
              replace p579 := eq_true p579
              replace q579 := eq_true q579
              go_wp2
              go_ret
              exact ⟨by first | rfl | (simp [errW_none, errW_some] <;> rfl) | (simp [*, errW_none, errW_some] <;> rfl), by repeat (first | (with_reducible first | exact HB.out | apply below_alloc | apply pw_below_drewN | apply below_drew1) | exact HB.out)⟩
            · rw [if_neg c5] at H
              have c5b0 : decide (40 < ((rd_L5 l0 x11_1).length : Int)) = false := decide_eq_false c5
              have c5b1 : decide (40 < (rd_L5 l0 x11_1).length) = false := decide_eq_false (by omega)
              clear c5
              have H' := Aside0.mk H
              clear H
              have p579 : 0 ≤ (x11_1 : Int) := of_decide_eq_true (by first | (with_reducible assumption) | assumption)
              have q579 : x11_1 < (l0.length : Int) := of_decide_eq_true (by first | (with_reducible assumption) | assumption)
              obtain ⟨ad579, A579_0, c579_0, e579, hx579_0, hl579_0, hi579_0⟩ := at_L5 HR0.out x11_1 p579 q579
              cases e579
              replace hx579_0 := (HB.out.cell (World.block_lt_of_cell? w _ hx579_0)).trans hx579_0
              have HR579_0 := Aside0.mk hi579_0
              have HC579_0 := Aside0.mk hl579_0
              clear hi579_0 hl579_0
              replace p579 := eq_true p579
              replace q579 := eq_true q579
              go_wp2
              go_loopg [20] k1 (fun kq v20 w' => ∃ (x20_2 : Int), v20 = .int .i64 x20_2 ∧ Aside0 (cordonlaw11_Few.l1 kq l0 (l0.length : Int) x11_1 (rd_L5 l0 x11_1) ((rd_L5 l0 x11_1).length : Int) x20_2 = some r) ∧ Aside0 (kq ≤ k1) ∧ Aside0 (Below w.heap.size w w'))
              case atStart => exact ⟨(0), (by first | rfl | (simp; done) | (simp [*]; done)), H', ⟨Nat.le_refl _⟩, ⟨by repeat (first | (with_reducible first | exact HB.out | apply below_alloc | apply pw_below_drewN | apply below_drew1) | exact HB.out)⟩⟩
              case round =>
                clear H'
                try clear c2
                try clear c2b0
                try clear p2
                try clear c3
                try clear c3b0
                try clear c4
                try clear c4b0
                try clear c5
                try clear c5b0
                try clear c5b1
                try clear p5
                try clear q5
                try clear hx5
                try clear hx579_0
                try clear p579
                try clear q579
                obtain ⟨x20_2, rfl, HA, HK2, HB⟩ := hrel
                cases gk with
                | zero => exact absurd HA.out (by simp [cordonlaw11_Few.l1])
                | succ k2 =>
                  have H := HA.out
                  clear HA
                  simp only [cordonlaw11_Few.l1] at H
                  by_cases c6 : x20_2 < ((rd_L5 l0 x11_1).length : Int)
                  · rw [if_pos c6] at H
                    have c6b0 : decide (x20_2 < ((rd_L5 l0 x11_1).length : Int)) = true := decide_eq_true c6
                    clear c6
                    by_cases c7 : 0 ≤ x20_2
                    · rw [if_pos c7] at H
                      have c7b0 : decide (0 ≤ x20_2) = true := decide_eq_true c7
                      clear c7
                      by_cases c8 : x20_2 < ((rd_L5 l0 x11_1).length : Int)
                      · rw [if_pos c8] at H
                        have c8b0 : decide (x20_2 < ((rd_L5 l0 x11_1).length : Int)) = true := decide_eq_true c8
                        clear c8
                        by_cases c9 : ((rd_L4 (rd_L5 l0 x11_1) x20_2).length : Int) > 40
                        · rw [if_pos c9] at H
                          have c9b0 : decide (40 < ((rd_L4 (rd_L5 l0 x11_1) x20_2).length : Int)) = true := decide_eq_true c9
                          have c9b1 : decide (40 < (rd_L4 (rd_L5 l0 x11_1) x20_2).length) = true := decide_eq_true (by omega)
                          clear c9
                          obtain rfl := Option.some.inj H
                          have p580 : 0 ≤ (x20_2 : Int) := of_decide_eq_true (by first | (with_reducible assumption) | assumption)
                          have q580 : x20_2 < ((rd_L5 l0 x11_1).length : Int) := of_decide_eq_true (by first | (with_reducible assumption) | assumption)
                          obtain ⟨ad580, A580_0, c580_0, e580, hx580_0, hl580_0, hi580_0⟩ := at_L4 HR579_0.out x20_2 p580 q580
                          cases e580
                          replace hx580_0 := (HB.out.cell (World.block_lt_of_cell? w _ hx580_0)).trans hx580_0
                          have HR580_0 := Aside0.mk hi580_0
                          have HC580_0 := Aside0.mk hl580_0
                          clear hi580_0 hl580_0
                          replace p580 := eq_true p580
                          replace q580 := eq_true q580
                          go_wp2
                          go_ret
                          exact ⟨by first | rfl | (simp [errW_none, errW_some] <;> rfl) | (simp [*, errW_none, errW_some] <;> rfl), by repeat (first | (with_reducible first | exact HB.out | apply below_alloc | apply pw_below_drewN | apply below_drew1) | exact HB.out)⟩
                        · rw [if_neg c9] at H
                          have c9b0 : decide (40 < ((rd_L4 (rd_L5 l0 x11_1) x20_2).length : Int)) = false := decide_eq_false c9
                          have c9b1 : decide (40 < (rd_L4 (rd_L5 l0 x11_1) x20_2).length) = false := decide_eq_false (by omega)
                          clear c9
                          have H' := Aside0.mk H
                          clear H
                          have p580 : 0 ≤ (x20_2 : Int) := of_decide_eq_true (by first | (with_reducible assumption) | assumption)
                          have q580 : x20_2 < ((rd_L5 l0 x11_1).length : Int) := of_decide_eq_true (by first | (with_reducible assumption) | assumption)
                          obtain ⟨ad580, A580_0, c580_0, e580, hx580_0, hl580_0, hi580_0⟩ := at_L4 HR579_0.out x20_2 p580 q580
                          cases e580
                          replace hx580_0 := (HB.out.cell (World.block_lt_of_cell? w _ hx580_0)).trans hx580_0
                          have HR580_0 := Aside0.mk hi580_0
                          have HC580_0 := Aside0.mk hl580_0
                          clear hi580_0 hl580_0
                          replace p580 := eq_true p580
                          replace q580 := eq_true q580
                          go_wp2
                          go_loopg [29] k2 (fun kq v29 w' => ∃ (x29_3 : Int), v29 = .int .i64 x29_3 ∧ Aside0 (cordonlaw11_Few.l2 kq l0 (l0.length : Int) x11_1 (rd_L5 l0 x11_1) ((rd_L5 l0 x11_1).length : Int) x20_2 (rd_L4 (rd_L5 l0 x11_1) x20_2) ((rd_L4 (rd_L5 l0 x11_1) x20_2).length : Int) x29_3 = some r) ∧ Aside0 (kq ≤ k2) ∧ Aside0 (Below w.heap.size w w'))
                          case atStart => exact ⟨(0), (by first | rfl | (simp; done) | (simp [*]; done)), H', ⟨Nat.le_refl _⟩, ⟨by repeat (first | (with_reducible first | exact HB.out | apply below_alloc | apply pw_below_drewN | apply below_drew1) | exact HB.out)⟩⟩
                          case round =>
                            clear H'
                            try clear c2
                            try clear c2b0
                            try clear p2
                            try clear c3
                            try clear c3b0
                            try clear c4
                            try clear c4b0
                            try clear c5
                            try clear c5b0
                            try clear c5b1
                            try clear p5
                            try clear q5
                            try clear hx5
                            try clear c6
                            try clear c6b0
                            try clear c7
                            try clear c7b0
                            try clear c8
                            try clear c8b0
                            try clear c9
                            try clear c9b0
                            try clear c9b1
                            try clear hx579_0
                            try clear hx580_0
                            try clear p2
                            try clear p5
                            try clear p579
                            try clear p580
                            try clear q5
                            try clear q579
                            try clear q580
                            obtain ⟨x29_3, rfl, HA, HK3, HB⟩ := hrel
                            cases gk with
                            | zero => exact absurd HA.out (by simp [cordonlaw11_Few.l2])
                            | succ k3 =>
                              have H := HA.out
                              clear HA
                              simp only [cordonlaw11_Few.l2] at H
                              by_cases c10 : x29_3 < ((rd_L4 (rd_L5 l0 x11_1) x20_2).length : Int)
                              · rw [if_pos c10] at H
                                have c10b0 : decide (x29_3 < ((rd_L4 (rd_L5 l0 x11_1) x20_2).length : Int)) = true := decide_eq_true c10
                                clear c10
                                by_cases c11 : 0 ≤ x29_3
                                · rw [if_pos c11] at H
                                  have c11b0 : decide (0 ≤ x29_3) = true := decide_eq_true c11
                                  clear c11
                                  by_cases c12 : x29_3 < ((rd_L4 (rd_L5 l0 x11_1) x20_2).length : Int)
                                  · rw [if_pos c12] at H
                                    have c12b0 : decide (x29_3 < ((rd_L4 (rd_L5 l0 x11_1) x20_2).length : Int)) = true := decide_eq_true c12
                                    clear c12
                                    replace H := Option.bind_eq_some_iff.mp H
                                    obtain ⟨t583, A130, H⟩ := H
                                    replace H : (if t583 = true then (cordonlaw11_Few.l2 k3 l0 (l0.length : Int) x11_1 (rd_L5 l0 x11_1) ((rd_L5 l0 x11_1).length : Int) x20_2 (rd_L4 (rd_L5 l0 x11_1) x20_2) ((rd_L4 (rd_L5 l0 x11_1) x20_2).length : Int) (wrap64 (x29_3 + 1))) else (some false)) = some r := H
                                    have A13 := Aside0.mk A130
                                    clear A130
                                    by_cases c14 : t583 = true
                                    · subst c14
                                      have H1 : (cordonlaw11_Few.l2 k3 l0 (l0.length : Int) x11_1 (rd_L5 l0 x11_1) ((rd_L5 l0 x11_1).length : Int) x20_2 (rd_L4 (rd_L5 l0 x11_1) x20_2) ((rd_L4 (rd_L5 l0 x11_1) x20_2).length : Int) (wrap64 (x29_3 + 1))) = some r := by rw [if_pos rfl] at H; exact H
                                      clear H
                                      have H := H1
                                      clear H1
                                      have H' := Aside0.mk H
                                      clear H
                                      have p581 : 0 ≤ (x29_3 : Int) := of_decide_eq_true (by first | (with_reducible assumption) | assumption)
                                      have q581 : x29_3 < ((rd_L4 (rd_L5 l0 x11_1) x20_2).length : Int) := of_decide_eq_true (by first | (with_reducible assumption) | assumption)
                                      obtain ⟨ad581, e581, hx581_0, hx581_1, hx581_2⟩ := at_T33 HR580_0.out x29_3 p581 q581
                                      cases e581
                                      replace hx581_0 := (HB.out.cell (World.block_lt_of_cell? w _ hx581_0)).trans hx581_0
                                      replace hx581_1 := (HB.out.cell (World.block_lt_of_cell? w _ hx581_1)).trans hx581_1
                                      replace hx581_2 := (HB.out.cell (World.block_lt_of_cell? w _ hx581_2)).trans hx581_2
                                      replace p581 := eq_true p581
                                      replace q581 := eq_true q581
                                      go_wp2_with (first | ((with_reducible refine gate_dst (N := 8) rfl ?_); refine box_event ?hg (N := 8) ?hd (cs := #[.int .i64 0, .int .i64 0, .string (⟨#[]⟩ : ByteArray)]) (t := 33) ?hr ?_; (case hd => rfl); (case hg => rfl); (case hr => first | (go_simp; done) | (go_simp; rfl)); intro gb582 hg w15 hbox hb; have n0_ := Aside0.mk (below_step (by repeat (first | (with_reducible first | exact HB.out | apply below_alloc | apply pw_below_drewN | apply below_drew1) | exact HB.out)) hb); have n1_ := Aside0.mk (hbox); have n2_ := Aside0.mk ((by rw [hg]; exact (below_size (by repeat (first | (with_reducible first | exact HB.out | apply below_alloc | apply pw_below_drewN | apply below_drew1) | exact HB.out))) : w.heap.size ≤ gb582)); have n3_ := Aside0.mk ((by rw [hg]; exact (below_size (by repeat (first | (with_reducible first | exact HB.out | apply below_alloc | apply pw_below_drewN | apply below_drew1) | exact HB.out))) : w.heap.size ≤ gb582)); clear HB; have HB := n0_; have BK582 := n1_; have GW582 := n2_; have GE582 := n3_; clear n0_ n1_ n2_ n3_; clear hb hbox hg; have hcz16_0 : w15.cell? ⟨gb582, 0, none⟩ = some (.int .i64 0) := (blk_cell BK582.out 0).trans rfl; have hcz16_1 : w15.cell? ⟨gb582, 1, none⟩ = some (.int .i64 0) := (blk_cell BK582.out 1).trans rfl; have hcz16_2 : w15.cell? ⟨gb582, 2, none⟩ = some (.string (⟨#[]⟩ : ByteArray)) := (blk_cell BK582.out 2).trans rfl; have hfz16_0 := blk_frozen BK582.out 0; have hfz16_1 := blk_frozen BK582.out 1; have hfz16_2 := blk_frozen BK582.out 2) | ((with_reducible refine gate_callee (f := 24) rfl ?_); refine goesL_ (some 34) rfl rfl Try.func24 (by kernel_rfl) rfl #[.agg #[.int .i64 ((rd_T33 (rd_L4 (rd_L5 l0 x11_1) x20_2) x29_3).f0), .int .i64 ((rd_T33 (rd_L4 (rd_L5 l0 x11_1) x20_2) x29_3).f1), .string ((rd_T33 (rd_L4 (rd_L5 l0 x11_1) x20_2) x29_3).f2)]] rfl (by (try simp only [List.map_toArray, List.map_cons, List.map_nil]); first | done | rfl | (simp only [List.length_drop, List.length_take]; rfl)) ?_; (with_reducible refine (cordonlaw01_Right.calls k3 ((rd_T33 (rd_L4 (rd_L5 l0 x11_1) x20_2) x29_3).f0) ((rd_T33 (rd_L4 (rd_L5 l0 x11_1) x20_2) x29_3).f1) ((rd_T33 (rd_L4 (rd_L5 l0 x11_1) x20_2) x29_3).f2) true _ A13.out).mono ?_); rintro e w17 ⟨rfl, hb⟩; refine ⟨_, rfl, ?_⟩; have n0_ := Aside0.mk (blk_below (g := gb582) (o := .cells #[.int .i64 ((rd_T33 (rd_L4 (rd_L5 l0 x11_1) x20_2) x29_3).f0), .int .i64 ((rd_T33 (rd_L4 (rd_L5 l0 x11_1) x20_2) x29_3).f1), .string ((rd_T33 (rd_L4 (rd_L5 l0 x11_1) x20_2) x29_3).f2)] 33 (0, 0)) (by (with_reducible repeat (first | refine blk_drewN ?_ _ | refine blk_drew ?_ | refine blk_alloc ?_ _)); refine blk_put (cs := #[.int .i64 ((rd_T33 (rd_L4 (rd_L5 l0 x11_1) x20_2) x29_3).f0), .int .i64 ((rd_T33 (rd_L4 (rd_L5 l0 x11_1) x20_2) x29_3).f1), .string (⟨#[]⟩ : ByteArray)]) ?_ 2 _ rfl; (with_reducible repeat (first | refine blk_drewN ?_ _ | refine blk_drew ?_ | refine blk_alloc ?_ _)); refine blk_put (cs := #[.int .i64 ((rd_T33 (rd_L4 (rd_L5 l0 x11_1) x20_2) x29_3).f0), .int .i64 0, .string (⟨#[]⟩ : ByteArray)]) ?_ 1 _ rfl; (with_reducible repeat (first | refine blk_drewN ?_ _ | refine blk_drew ?_ | refine blk_alloc ?_ _)); refine blk_put (cs := #[.int .i64 0, .int .i64 0, .string (⟨#[]⟩ : ByteArray)]) ?_ 0 _ rfl; (with_reducible repeat (first | refine blk_drewN ?_ _ | refine blk_drew ?_ | refine blk_alloc ?_ _)); exact BK582.out) hb); have n1_ := Aside0.mk (below_step (by repeat (first | (with_reducible first | exact HB.out | apply below_alloc | apply pw_below_drewN | apply below_drew1 | refine below_set ?_ GE582.out) | exact HB.out)) hb); clear BK582; clear HB; have BK582 := n0_; have HB := n1_; clear n0_ n1_; (try clear hb); (try clear hb2); (try clear hk); (try clear hi)))
                                      go_roundg k3
                                      case measure => have := HK1.out; have := HK2.out; have := HK3.out; omega
                                      case rel => exact ⟨(wrap64 (x29_3 + 1)), (by first | rfl | (simp; done) | (simp [*]; done)), H', ⟨by have := HK1.out; have := HK2.out; have := HK3.out; omega⟩, ⟨by repeat (first | (with_reducible first | exact HB.out | apply below_alloc | apply pw_below_drewN | apply below_drew1 | refine below_set ?_ GE582.out) | exact HB.out)⟩⟩
                                    · replace c14 := Bool.eq_false_iff.mpr c14
                                      subst c14
                                      have H1 : (some false) = some r := by rw [if_neg (show ¬ (false = true) by decide)] at H; exact H
                                      clear H
                                      have H := H1
                                      clear H1
                                      obtain rfl := Option.some.inj H
                                      have p581 : 0 ≤ (x29_3 : Int) := of_decide_eq_true (by first | (with_reducible assumption) | assumption)
                                      have q581 : x29_3 < ((rd_L4 (rd_L5 l0 x11_1) x20_2).length : Int) := of_decide_eq_true (by first | (with_reducible assumption) | assumption)
                                      obtain ⟨ad581, e581, hx581_0, hx581_1, hx581_2⟩ := at_T33 HR580_0.out x29_3 p581 q581
                                      cases e581
                                      replace hx581_0 := (HB.out.cell (World.block_lt_of_cell? w _ hx581_0)).trans hx581_0
                                      replace hx581_1 := (HB.out.cell (World.block_lt_of_cell? w _ hx581_1)).trans hx581_1
                                      replace hx581_2 := (HB.out.cell (World.block_lt_of_cell? w _ hx581_2)).trans hx581_2
                                      replace p581 := eq_true p581
                                      replace q581 := eq_true q581
                                      go_wp2_with (first | ((with_reducible refine gate_dst (N := 8) rfl ?_); refine box_event ?hg (N := 8) ?hd (cs := #[.int .i64 0, .int .i64 0, .string (⟨#[]⟩ : ByteArray)]) (t := 33) ?hr ?_; (case hd => rfl); (case hg => rfl); (case hr => first | (go_simp; done) | (go_simp; rfl)); intro gb582 hg w18 hbox hb; have n0_ := Aside0.mk (below_step (by repeat (first | (with_reducible first | exact HB.out | apply below_alloc | apply pw_below_drewN | apply below_drew1) | exact HB.out)) hb); have n1_ := Aside0.mk (hbox); have n2_ := Aside0.mk ((by rw [hg]; exact (below_size (by repeat (first | (with_reducible first | exact HB.out | apply below_alloc | apply pw_below_drewN | apply below_drew1) | exact HB.out))) : w.heap.size ≤ gb582)); have n3_ := Aside0.mk ((by rw [hg]; exact (below_size (by repeat (first | (with_reducible first | exact HB.out | apply below_alloc | apply pw_below_drewN | apply below_drew1) | exact HB.out))) : w.heap.size ≤ gb582)); clear HB; have HB := n0_; have BK582 := n1_; have GW582 := n2_; have GE582 := n3_; clear n0_ n1_ n2_ n3_; clear hb hbox hg; have hcz19_0 : w18.cell? ⟨gb582, 0, none⟩ = some (.int .i64 0) := (blk_cell BK582.out 0).trans rfl; have hcz19_1 : w18.cell? ⟨gb582, 1, none⟩ = some (.int .i64 0) := (blk_cell BK582.out 1).trans rfl; have hcz19_2 : w18.cell? ⟨gb582, 2, none⟩ = some (.string (⟨#[]⟩ : ByteArray)) := (blk_cell BK582.out 2).trans rfl; have hfz19_0 := blk_frozen BK582.out 0; have hfz19_1 := blk_frozen BK582.out 1; have hfz19_2 := blk_frozen BK582.out 2) | ((with_reducible refine gate_callee (f := 24) rfl ?_); refine goesL_ (some 34) rfl rfl Try.func24 (by kernel_rfl) rfl #[.agg #[.int .i64 ((rd_T33 (rd_L4 (rd_L5 l0 x11_1) x20_2) x29_3).f0), .int .i64 ((rd_T33 (rd_L4 (rd_L5 l0 x11_1) x20_2) x29_3).f1), .string ((rd_T33 (rd_L4 (rd_L5 l0 x11_1) x20_2) x29_3).f2)]] rfl (by (try simp only [List.map_toArray, List.map_cons, List.map_nil]); first | done | rfl | (simp only [List.length_drop, List.length_take]; rfl)) ?_; (with_reducible refine (cordonlaw01_Right.calls k3 ((rd_T33 (rd_L4 (rd_L5 l0 x11_1) x20_2) x29_3).f0) ((rd_T33 (rd_L4 (rd_L5 l0 x11_1) x20_2) x29_3).f1) ((rd_T33 (rd_L4 (rd_L5 l0 x11_1) x20_2) x29_3).f2) false _ A13.out).mono ?_); rintro e w20 ⟨rfl, hb⟩; refine ⟨_, rfl, ?_⟩; have n0_ := Aside0.mk (blk_below (g := gb582) (o := .cells #[.int .i64 ((rd_T33 (rd_L4 (rd_L5 l0 x11_1) x20_2) x29_3).f0), .int .i64 ((rd_T33 (rd_L4 (rd_L5 l0 x11_1) x20_2) x29_3).f1), .string ((rd_T33 (rd_L4 (rd_L5 l0 x11_1) x20_2) x29_3).f2)] 33 (0, 0)) (by (with_reducible repeat (first | refine blk_drewN ?_ _ | refine blk_drew ?_ | refine blk_alloc ?_ _)); refine blk_put (cs := #[.int .i64 ((rd_T33 (rd_L4 (rd_L5 l0 x11_1) x20_2) x29_3).f0), .int .i64 ((rd_T33 (rd_L4 (rd_L5 l0 x11_1) x20_2) x29_3).f1), .string (⟨#[]⟩ : ByteArray)]) ?_ 2 _ rfl; (with_reducible repeat (first | refine blk_drewN ?_ _ | refine blk_drew ?_ | refine blk_alloc ?_ _)); refine blk_put (cs := #[.int .i64 ((rd_T33 (rd_L4 (rd_L5 l0 x11_1) x20_2) x29_3).f0), .int .i64 0, .string (⟨#[]⟩ : ByteArray)]) ?_ 1 _ rfl; (with_reducible repeat (first | refine blk_drewN ?_ _ | refine blk_drew ?_ | refine blk_alloc ?_ _)); refine blk_put (cs := #[.int .i64 0, .int .i64 0, .string (⟨#[]⟩ : ByteArray)]) ?_ 0 _ rfl; (with_reducible repeat (first | refine blk_drewN ?_ _ | refine blk_drew ?_ | refine blk_alloc ?_ _)); exact BK582.out) hb); have n1_ := Aside0.mk (below_step (by repeat (first | (with_reducible first | exact HB.out | apply below_alloc | apply pw_below_drewN | apply below_drew1 | refine below_set ?_ GE582.out) | exact HB.out)) hb); clear BK582; clear HB; have BK582 := n0_; have HB := n1_; clear n0_ n1_; (try clear hb); (try clear hb2); (try clear hk); (try clear hi)))
                                      go_ret
                                      exact ⟨by first | rfl | (simp [errW_none, errW_some] <;> rfl) | (simp [*, errW_none, errW_some] <;> rfl), by repeat (first | (with_reducible first | exact HB.out | apply below_alloc | apply pw_below_drewN | apply below_drew1 | refine below_set ?_ GE582.out) | exact HB.out)⟩
                                  · rw [if_neg c12] at H
                                    exact absurd H (by simp)
                                · rw [if_neg c11] at H
                                  exact absurd H (by simp)
                              · rw [if_neg c10] at H
                                have c10b0 : decide (x29_3 < ((rd_L4 (rd_L5 l0 x11_1) x20_2).length : Int)) = false := decide_eq_false c10
                                clear c10
                                have H' := Aside0.mk H
                                clear H
                                go_wp2
                                go_roundg k3
                                case measure => have := HK1.out; have := HK2.out; have := HK3.out; omega
                                case rel => exact ⟨(wrap64 (x20_2 + 1)), (by first | rfl | (simp; done) | (simp [*]; done)), H', ⟨by have := HK1.out; have := HK2.out; have := HK3.out; omega⟩, ⟨by repeat (first | (with_reducible first | exact HB.out | apply below_alloc | apply pw_below_drewN | apply below_drew1) | exact HB.out)⟩⟩
                      · rw [if_neg c8] at H
                        exact absurd H (by simp)
                    · rw [if_neg c7] at H
                      exact absurd H (by simp)
                  · rw [if_neg c6] at H
                    have c6b0 : decide (x20_2 < ((rd_L5 l0 x11_1).length : Int)) = false := decide_eq_false c6
                    clear c6
                    have H' := Aside0.mk H
                    clear H
                    go_wp2
                    go_roundg k2
                    case measure => have := HK1.out; have := HK2.out; omega
                    case rel => exact ⟨(wrap64 (x11_1 + 1)), (by first | rfl | (simp; done) | (simp [*]; done)), H', ⟨by have := HK1.out; have := HK2.out; omega⟩, ⟨by repeat (first | (with_reducible first | exact HB.out | apply below_alloc | apply pw_below_drewN | apply below_drew1) | exact HB.out)⟩⟩
          · rw [if_neg c4] at H
            exact absurd H (by simp)
        · rw [if_neg c3] at H
          exact absurd H (by simp)
      · rw [if_neg c2] at H
        have c2b0 : decide (x11_1 < (l0.length : Int)) = false := decide_eq_false c2
        clear c2
        obtain rfl := Option.some.inj H
        go_wp2
        go_ret
        exact ⟨by first | rfl | (simp [errW_none, errW_some] <;> rfl) | (simp [*, errW_none, errW_some] <;> rfl), by repeat (first | (with_reducible first | exact HB.out | apply below_alloc | apply pw_below_drewN | apply below_drew1) | exact HB.out)⟩
def cordonref11_Same.l0 : Nat → List (List (S33)) → List (List (S33)) → Int → Option (Bool)
  | 0, _, _, _ => none
  | k + 1, x0, x1, x5 => if x5 < (x0.length : Int) then (if 0 ≤ x5 then (if x5 < (x1.length : Int) then ((cordonref02_Same.f k (rd_L4 x0 x5) (rd_L4 x1 x5)).bind fun t586 => (if t586 = true then (cordonref11_Same.l0 k x0 x1 (wrap64 (x5 + 1))) else (some false))) else (none)) else (none)) else (some true)
def cordonref11_Same.f (k : Nat) (l0 : List (List (S33))) (l1 : List (List (S33))) : Option (Bool) := if (l0.length : Int) = (l1.length : Int) then (cordonref11_Same.l0 k l0 l1 0) else (some false)
set_option maxHeartbeats 8000000 in
set_option maxRecDepth 100000 in
theorem cordonref11_Same.calls (k : Nat) (A0 : Option Addr) (c0 : Nat) (l0 : List (List (S33))) (A1 : Option Addr) (c1 : Nat) (l1 : List (List (S33))) (r : Bool) (w : World) (hr0 : Kd.C (Kd.slice 33 k33) w A0 l0.length l0) (hc0 : l0.length ≤ c0) (hr1 : Kd.C (Kd.slice 33 k33) w A1 l1.length l1) (hc1 : l1.length ≤ c1) (h : cordonref11_Same.f k l0 l1 = some r) :
    Calls Try.prog 56 #[.slice A0 l0.length c0, .slice A1 l1.length c1] w fun e w' => e = .returned (.bool r) ∧ Drawn0 w w' := by
  have HR0 := Aside0.mk hr0
  have HC0 := Aside0.mk hc0
  clear hr0 hc0
  have HR1 := Aside0.mk hr1
  have HC1 := Aside0.mk hc1
  clear hr1 hc1
  have H : (if (l0.length : Int) = (l1.length : Int) then (cordonref11_Same.l0 k l0 l1 0) else (some false)) = some r := h
  clear h
  by_cases c3 : (l0.length : Int) = (l1.length : Int)
  · rw [if_pos c3] at H
    have c3b0 : ((l0.length : Int) == (l1.length : Int)) = true := beq_iff_eq.mpr c3
    have c3b1 : ((l0.length : Int) != (l1.length : Int)) = false := bne_eq_false_iff_eq.mpr c3
    have c3b2 : (l0.length == l1.length) = true := by first | simpa using c3 | (simp at c3 ⊢; omega)
    clear c3
    have H' := Aside0.mk H
    clear H
    go_enter Try.func56, Try.ntmps56
    go_wp2
    repeat (go_quiet (fail); try go_wp2)
    go_loopg [5] k (fun kq v5 w' => ∃ (x5_1 : Int), v5 = .int .i64 x5_1 ∧ Aside0 (cordonref11_Same.l0 kq l0 l1 x5_1 = some r) ∧ Aside0 (kq ≤ k) ∧ Drawn0 w w')
    case atStart => exact ⟨(0), (by first | rfl | (simp; done) | (simp [*]; done)), H', ⟨Nat.le_refl _⟩, by repeat (first | exact Drawn0.refl _ | apply Drawn0.step)⟩
    case round =>
      clear H'
      try clear c1
      try clear p2
      try clear c3
      try clear c3b0
      try clear c3b1
      try clear c3b2
      obtain ⟨x5_1, rfl, HA, HK1, ⟨m1, rfl⟩⟩ := hrel
      cases gk with
      | zero => exact absurd HA.out (by simp [cordonref11_Same.l0])
      | succ k1 =>
        have H := HA.out
        clear HA
        simp only [cordonref11_Same.l0] at H
        by_cases c4 : x5_1 < (l0.length : Int)
        · rw [if_pos c4] at H
          have c4b0 : decide (x5_1 < (l0.length : Int)) = true := decide_eq_true c4
          clear c4
          by_cases c5 : 0 ≤ x5_1
          · rw [if_pos c5] at H
            have c5b0 : decide (0 ≤ x5_1) = true := decide_eq_true c5
            clear c5
            by_cases c6 : x5_1 < (l1.length : Int)
            · rw [if_pos c6] at H
              have c6b0 : decide (x5_1 < (l1.length : Int)) = true := decide_eq_true c6
              clear c6
              replace H := Option.bind_eq_some_iff.mp H
              obtain ⟨t586, A70, H⟩ := H
              replace H : (if t586 = true then (cordonref11_Same.l0 k1 l0 l1 (wrap64 (x5_1 + 1))) else (some false)) = some r := H
              have A7 := Aside0.mk A70
              clear A70
              by_cases c8 : t586 = true
              · subst c8
                have H1 : (cordonref11_Same.l0 k1 l0 l1 (wrap64 (x5_1 + 1))) = some r := by rw [if_pos rfl] at H; exact H
                clear H
                have H := H1
                clear H1
                have H' := Aside0.mk H
                clear H
                have p584 : 0 ≤ (x5_1 : Int) := of_decide_eq_true (by first | (with_reducible assumption) | assumption)
                have q584 : x5_1 < (l0.length : Int) := of_decide_eq_true (by first | (with_reducible assumption) | assumption)
                obtain ⟨ad584, A584_0, c584_0, e584, hx584_0, hl584_0, hi584_0⟩ := at_L4 HR0.out x5_1 p584 q584
                cases e584
                have HR584_0 := Aside0.mk hi584_0
                have HC584_0 := Aside0.mk hl584_0
                clear hi584_0 hl584_0
                replace p584 := eq_true p584
                replace q584 := eq_true q584
                have p585 : 0 ≤ (x5_1 : Int) := of_decide_eq_true (by first | (with_reducible assumption) | assumption)
                have q585 : x5_1 < (l1.length : Int) := of_decide_eq_true (by first | (with_reducible assumption) | assumption)
                obtain ⟨ad585, A585_0, c585_0, e585, hx585_0, hl585_0, hi585_0⟩ := at_L4 HR1.out x5_1 p585 q585
                cases e585
                have HR585_0 := Aside0.mk hi585_0
                have HC585_0 := Aside0.mk hl585_0
                clear hi585_0 hl585_0
                replace p585 := eq_true p585
                replace q585 := eq_true q585
                go_wp2_with (first | (go_at_call 49; (with_reducible refine (cordonref02_Same.calls k1 _ _ (rd_L4 l0 x5_1) _ _ (rd_L4 l1 x5_1) true _ ?side1 ?side2 ?side3 ?side4 A7.out).mono ?_); (case side1 => repeat (first | exact HR584_0.out | (with_reducible refine Kd.C_alloc ?_ _) | (with_reducible refine Kd.C_drewN ?_ _) | (with_reducible refine Kd.C_drew ?_))); (case side2 => exact HC584_0.out); (case side3 => repeat (first | exact HR585_0.out | (with_reducible refine Kd.C_alloc ?_ _) | (with_reducible refine Kd.C_drewN ?_ _) | (with_reducible refine Kd.C_drew ?_))); (case side4 => exact HC585_0.out); rintro e w' ⟨rfl, ⟨nd, rfl⟩⟩; (try first | exact ⟨rfl, _, World.drewN_drewN _ _ _⟩ | exact ⟨rfl, _, Eq.trans (World.drewN_drewN _ _ _) (congrArg (World.drewN _) (Nat.add_assoc _ _ _))⟩)))
                repeat (go_quiet (first | (go_at_call 49; (with_reducible refine (cordonref02_Same.calls k1 _ _ (rd_L4 l0 x5_1) _ _ (rd_L4 l1 x5_1) true _ ?side1 ?side2 ?side3 ?side4 A7.out).mono ?_); (case side1 => repeat (first | exact HR584_0.out | (with_reducible refine Kd.C_alloc ?_ _) | (with_reducible refine Kd.C_drewN ?_ _) | (with_reducible refine Kd.C_drew ?_))); (case side2 => exact HC584_0.out); (case side3 => repeat (first | exact HR585_0.out | (with_reducible refine Kd.C_alloc ?_ _) | (with_reducible refine Kd.C_drewN ?_ _) | (with_reducible refine Kd.C_drew ?_))); (case side4 => exact HC585_0.out); rintro e w' ⟨rfl, ⟨nd, rfl⟩⟩; (try first | exact ⟨rfl, _, World.drewN_drewN _ _ _⟩ | exact ⟨rfl, _, Eq.trans (World.drewN_drewN _ _ _) (congrArg (World.drewN _) (Nat.add_assoc _ _ _))⟩))); try go_wp2_with (first | (go_at_call 49; (with_reducible refine (cordonref02_Same.calls k1 _ _ (rd_L4 l0 x5_1) _ _ (rd_L4 l1 x5_1) true _ ?side1 ?side2 ?side3 ?side4 A7.out).mono ?_); (case side1 => repeat (first | exact HR584_0.out | (with_reducible refine Kd.C_alloc ?_ _) | (with_reducible refine Kd.C_drewN ?_ _) | (with_reducible refine Kd.C_drew ?_))); (case side2 => exact HC584_0.out); (case side3 => repeat (first | exact HR585_0.out | (with_reducible refine Kd.C_alloc ?_ _) | (with_reducible refine Kd.C_drewN ?_ _) | (with_reducible refine Kd.C_drew ?_))); (case side4 => exact HC585_0.out); rintro e w' ⟨rfl, ⟨nd, rfl⟩⟩; (try first | exact ⟨rfl, _, World.drewN_drewN _ _ _⟩ | exact ⟨rfl, _, Eq.trans (World.drewN_drewN _ _ _) (congrArg (World.drewN _) (Nat.add_assoc _ _ _))⟩))))
                go_roundg k1
                case measure => have := HK1.out; omega
                case rel => exact ⟨(wrap64 (x5_1 + 1)), (by first | rfl | (simp; done) | (simp [*]; done)), H', ⟨by have := HK1.out; omega⟩, by repeat (first | exact Drawn0.refl _ | apply Drawn0.step)⟩
              · replace c8 := Bool.eq_false_iff.mpr c8
                subst c8
                have H1 : (some false) = some r := by rw [if_neg (show ¬ (false = true) by decide)] at H; exact H
                clear H
                have H := H1
                clear H1
                obtain rfl := Option.some.inj H
                have p584 : 0 ≤ (x5_1 : Int) := of_decide_eq_true (by first | (with_reducible assumption) | assumption)
                have q584 : x5_1 < (l0.length : Int) := of_decide_eq_true (by first | (with_reducible assumption) | assumption)
                obtain ⟨ad584, A584_0, c584_0, e584, hx584_0, hl584_0, hi584_0⟩ := at_L4 HR0.out x5_1 p584 q584
                cases e584
                have HR584_0 := Aside0.mk hi584_0
                have HC584_0 := Aside0.mk hl584_0
                clear hi584_0 hl584_0
                replace p584 := eq_true p584
                replace q584 := eq_true q584
                have p585 : 0 ≤ (x5_1 : Int) := of_decide_eq_true (by first | (with_reducible assumption) | assumption)
                have q585 : x5_1 < (l1.length : Int) := of_decide_eq_true (by first | (with_reducible assumption) | assumption)
                obtain ⟨ad585, A585_0, c585_0, e585, hx585_0, hl585_0, hi585_0⟩ := at_L4 HR1.out x5_1 p585 q585
                cases e585
                have HR585_0 := Aside0.mk hi585_0
                have HC585_0 := Aside0.mk hl585_0
                clear hi585_0 hl585_0
                replace p585 := eq_true p585
                replace q585 := eq_true q585
                go_wp2_with (first | (go_at_call 49; (with_reducible refine (cordonref02_Same.calls k1 _ _ (rd_L4 l0 x5_1) _ _ (rd_L4 l1 x5_1) false _ ?side1 ?side2 ?side3 ?side4 A7.out).mono ?_); (case side1 => repeat (first | exact HR584_0.out | (with_reducible refine Kd.C_alloc ?_ _) | (with_reducible refine Kd.C_drewN ?_ _) | (with_reducible refine Kd.C_drew ?_))); (case side2 => exact HC584_0.out); (case side3 => repeat (first | exact HR585_0.out | (with_reducible refine Kd.C_alloc ?_ _) | (with_reducible refine Kd.C_drewN ?_ _) | (with_reducible refine Kd.C_drew ?_))); (case side4 => exact HC585_0.out); rintro e w' ⟨rfl, ⟨nd, rfl⟩⟩; (try first | exact ⟨rfl, _, World.drewN_drewN _ _ _⟩ | exact ⟨rfl, _, Eq.trans (World.drewN_drewN _ _ _) (congrArg (World.drewN _) (Nat.add_assoc _ _ _))⟩)))
                repeat (go_quiet (first | (go_at_call 49; (with_reducible refine (cordonref02_Same.calls k1 _ _ (rd_L4 l0 x5_1) _ _ (rd_L4 l1 x5_1) false _ ?side1 ?side2 ?side3 ?side4 A7.out).mono ?_); (case side1 => repeat (first | exact HR584_0.out | (with_reducible refine Kd.C_alloc ?_ _) | (with_reducible refine Kd.C_drewN ?_ _) | (with_reducible refine Kd.C_drew ?_))); (case side2 => exact HC584_0.out); (case side3 => repeat (first | exact HR585_0.out | (with_reducible refine Kd.C_alloc ?_ _) | (with_reducible refine Kd.C_drewN ?_ _) | (with_reducible refine Kd.C_drew ?_))); (case side4 => exact HC585_0.out); rintro e w' ⟨rfl, ⟨nd, rfl⟩⟩; (try first | exact ⟨rfl, _, World.drewN_drewN _ _ _⟩ | exact ⟨rfl, _, Eq.trans (World.drewN_drewN _ _ _) (congrArg (World.drewN _) (Nat.add_assoc _ _ _))⟩))); try go_wp2_with (first | (go_at_call 49; (with_reducible refine (cordonref02_Same.calls k1 _ _ (rd_L4 l0 x5_1) _ _ (rd_L4 l1 x5_1) false _ ?side1 ?side2 ?side3 ?side4 A7.out).mono ?_); (case side1 => repeat (first | exact HR584_0.out | (with_reducible refine Kd.C_alloc ?_ _) | (with_reducible refine Kd.C_drewN ?_ _) | (with_reducible refine Kd.C_drew ?_))); (case side2 => exact HC584_0.out); (case side3 => repeat (first | exact HR585_0.out | (with_reducible refine Kd.C_alloc ?_ _) | (with_reducible refine Kd.C_drewN ?_ _) | (with_reducible refine Kd.C_drew ?_))); (case side4 => exact HC585_0.out); rintro e w' ⟨rfl, ⟨nd, rfl⟩⟩; (try first | exact ⟨rfl, _, World.drewN_drewN _ _ _⟩ | exact ⟨rfl, _, Eq.trans (World.drewN_drewN _ _ _) (congrArg (World.drewN _) (Nat.add_assoc _ _ _))⟩))))
                go_ret
                exact ⟨by first | rfl | (simp; done) | (simp [*]; done), by repeat (first | exact Drawn0.refl _ | apply Drawn0.step)⟩
            · rw [if_neg c6] at H
              exact absurd H (by simp)
          · rw [if_neg c5] at H
            exact absurd H (by simp)
        · rw [if_neg c4] at H
          have c4b0 : decide (x5_1 < (l0.length : Int)) = false := decide_eq_false c4
          clear c4
          obtain rfl := Option.some.inj H
          go_wp2
          repeat (go_quiet (fail); try go_wp2)
          go_ret
          exact ⟨by first | rfl | (simp; done) | (simp [*]; done), by repeat (first | exact Drawn0.refl _ | apply Drawn0.step)⟩
  · rw [if_neg c3] at H
    have c3b0 : ((l0.length : Int) == (l1.length : Int)) = false := beq_eq_false_iff_ne.mpr c3
    have c3b1 : ((l0.length : Int) != (l1.length : Int)) = true := bne_iff_ne.mpr c3
    have c3b2 : (l0.length == l1.length) = false := by first | simpa using c3 | (simp at c3 ⊢; omega)
    obtain rfl := Option.some.inj H
    go_enter Try.func56, Try.ntmps56
    go_wp2
    repeat (go_quiet (fail); try go_wp2)
    go_ret
    exact ⟨by first | rfl | (simp; done) | (simp [*]; done), by repeat (first | exact Drawn0.refl _ | apply Drawn0.step)⟩
def rows_bytes.f (k : Nat) (l0 : List (S33)) : Option (ByteArray) := (code_Encode.f k l0).bind fun bt587 => (some bt587.1)
set_option maxHeartbeats 8000000 in
set_option maxRecDepth 100000 in
theorem rows_bytes.calls (k : Nat) (A0 : Option Addr) (c0 : Nat) (l0 : List (S33)) (r : ByteArray) (w : World) (hr0 : Kd.C k33 w A0 l0.length l0) (hc0 : l0.length ≤ c0) (h : rows_bytes.f k l0 = some r) :
    Calls Try.prog 98 #[.slice A0 l0.length c0] w fun e w' => e = .returned (.string r) ∧ Below w.heap.size w w' := by
  have HR0 := Aside0.mk hr0
  have HC0 := Aside0.mk hc0
  clear hr0 hc0
  have HB := Aside0.mk (Below.refl w.heap.size w)
  have H : ((code_Encode.f k l0).bind fun bt587 => (some bt587.1)) = some r := h
  clear h
  replace H := Option.bind_eq_some_iff.mp H
  obtain ⟨⟨t587, t588⟩, A20, H⟩ := H
  replace H : (some t587) = some r := H
  have A2 := Aside0.mk A20
  clear A20
  obtain rfl := Option.some.inj H
  go_enter Try.func98, Try.ntmps98
  go_wp2_with (first | ((with_reducible refine gate_callee (f := 21) rfl ?_); refine goesL_ (some 7) rfl rfl Try.func21 (by kernel_rfl) rfl #[.slice A0 l0.length c0] rfl (by (try simp only [List.map_toArray, List.map_cons, List.map_nil]); first | done | rfl | (simp only [List.length_drop, List.length_take]; rfl)) ?_; (with_reducible refine (code_Encode.calls k _ _ l0 t587 t588 _ ?side1 ?side2 A2.out).mono ?_); (case side1 => repeat (first | exact HR0.out | (with_reducible refine Kd.C_alloc ?_ _) | (with_reducible refine Kd.C_drewN ?_ _) | (with_reducible refine Kd.C_drew ?_))); (case side2 => exact HC0.out); rintro e w3 ⟨rfl, hb⟩; refine ⟨_, rfl, ?_⟩; have n0_ := Aside0.mk (below_step (by repeat (first | (with_reducible first | exact HB.out | apply below_alloc | apply pw_below_drewN | apply below_drew1) | exact HB.out)) hb); clear HB; have HB := n0_; clear n0_; (try clear hb); (try clear hb2); (try clear hk); (try clear hi)))
  go_ret
  exact ⟨by first | rfl | (simp [errW_none, errW_some] <;> rfl) | (simp [*, errW_none, errW_some] <;> rfl), by repeat (first | (with_reducible first | exact HB.out | apply below_alloc | apply pw_below_drewN | apply below_drew1) | exact HB.out)⟩
def cordonlaw11_one.f (a0 : Int) : Option ((List (S33))) := (cordonref01_Int.f a0).bind fun bt589 => (some (([(⟨bt589.1, bt589.2.1, bt589.2.2⟩ : S33)] : List (S33))))
set_option maxHeartbeats 8000000 in
set_option maxRecDepth 100000 in
theorem cordonlaw11_one.calls (a0 : Int) (r : List (S33)) (w : World) (h : cordonlaw11_one.f a0 = some r) :
    Calls Try.prog 92 #[.int .i64 a0] w fun e w' => ∃ v0_ : Value, e = .returned (v0_) ∧ Kd.R k33 33 w' w.heap.size (fun _ => True) v0_ r ∧ Below w.heap.size w w' := by
  have HB := Aside0.mk (Below.refl w.heap.size w)
  have H : ((cordonref01_Int.f a0).bind fun bt589 => (some (([(⟨bt589.1, bt589.2.1, bt589.2.2⟩ : S33)] : List (S33))))) = some r := h
  clear h
  replace H := Option.bind_eq_some_iff.mp H
  obtain ⟨⟨t589, t590, t591⟩, A20, H⟩ := H
  replace H : (some (([(⟨t589, t590, t591⟩ : S33)] : List (S33)))) = some r := H
  have A2 := Aside0.mk A20
  clear A20
  obtain ⟨y592, hy592⟩ : ∃ y_ : List (S33), y_ = (([(⟨t589, t590, t591⟩ : S33)] : List (S33))) := ⟨_, rfl⟩
  replace H : (some y592) = some r := by first | (rw [hy592]; with_reducible exact H) | (have H2_ := (Option.bind_some _ _).symm.trans H; rw [hy592]; with_reducible exact H2_) | (have H2_ := (Option.bind_some _ _).symm.trans H; with_reducible exact H2_) | with_reducible exact H | (rw [hy592]; exact H) | exact H
  have Ny592 := Aside0.mk hy592
  clear hy592
  obtain rfl := Option.some.inj H
  go_enter Try.func92, Try.ntmps92
  go_wp2_with (first | ((with_reducible refine gate_callee (f := 36) rfl ?_); refine goesL_ (some 4) rfl rfl Try.func36 (by kernel_rfl) rfl #[.int .i64 a0] rfl (by (try simp only [List.map_toArray, List.map_cons, List.map_nil]); first | done | rfl | (simp only [List.length_drop, List.length_take]; rfl)) ?_; (with_reducible refine (cordonref01_Int.calls a0 t589 t590 t591 _ A2.out).mono ?_); rintro e w3 ⟨rfl, hb⟩; refine ⟨_, rfl, ?_⟩; have n0_ := Aside0.mk (below_step (by repeat (first | (with_reducible first | exact HB.out | apply below_alloc | apply pw_below_drewN | apply below_drew1) | exact HB.out)) hb); clear HB; have HB := n0_; clear n0_; (try clear hb); (try clear hb2); (try clear hk); (try clear hi)) | ((with_reducible refine gate_dst (N := 5) rfl ?_); refine Kd.R_lit k33 _ 33 ?hg (N := 5) ?hd (xs := ([(⟨t589, t590, t591⟩ : S33)] : List (S33))) (inner := [.int .i64 t589, .int .i64 t590, .string t591]) (ok := fun _ => True) (okp := fun _ => True) ?hr ?hp (fun _ hk => hk) trivial (Below.refl _ _) (Nat.le_refl _) (by simp) ?_; (case hd => rfl); (case hg => rfl); (case hr => first | (go_simp; done) | (go_simp; rfl)); (case hp => exact (Reps.c3 (show Kd.M k33 _ _ _ (⟨t589, t590, t591⟩ : S33) [.int .i64 t589, .int .i64 t590, .string t591] from (k33_mkM _ _ _ (⟨t589, t590, t591⟩ : S33) )) (Reps.none _ _))); intro v593 w4 ho5 hb hg_ hnew_; clear hg_ hnew_; (first | rw [← Ny592.out] at ho5 | (simp only [Int.reduceToNat] at ho5; rw [← Ny592.out] at ho5)); have n0_ := Aside0.mk (Kd.R_lower ho5 (below_size (by repeat (first | (with_reducible first | exact HB.out | apply below_alloc | apply pw_below_drewN | apply below_drew1) | exact HB.out)))); have n1_ := Aside0.mk (below_step (by repeat (first | (with_reducible first | exact HB.out | apply below_alloc | apply pw_below_drewN | apply below_drew1) | exact HB.out)) hb); clear HB; have HO594 := n0_; have HB := n1_; clear n0_ n1_; clear hb ho5))
  go_ret
  exact ⟨_, by first | rfl | (simp [errW_none, errW_some] <;> rfl) | (simp [*, errW_none, errW_some] <;> rfl), by (with_reducible repeat (first | apply Kd.R_alloc | apply Kd.R_drewN | apply Kd.R_drew)); exact HO594.out, by repeat (first | (with_reducible first | exact HB.out | apply below_alloc | apply pw_below_drewN | apply below_drew1) | exact HB.out)⟩
def cordonref03_Ints.l0 : Nat → List Int → List Int → Int → Option (Bool)
  | 0, _, _, _ => none
  | k + 1, x0, x1, x5 => if x5 < (x0.length : Int) then (if 0 ≤ x5 then (if x5 < (x1.length : Int) then (if (rd x0 x5) = (rd x1 x5) then (cordonref03_Ints.l0 k x0 x1 (wrap64 (x5 + 1))) else (some false)) else (none)) else (none)) else (some true)
def cordonref03_Ints.f (k : Nat) (l0 : List Int) (l1 : List Int) : Option (Bool) := if (l0.length : Int) = (l1.length : Int) then (cordonref03_Ints.l0 k l0 l1 0) else (some false)
set_option maxHeartbeats 8000000 in
set_option maxRecDepth 100000 in
theorem cordonref03_Ints.calls (k : Nat) (A0 : Option Addr) (c0 : Nat) (l0 : List Int) (A1 : Option Addr) (c1 : Nat) (l1 : List Int) (r : Bool) (w : World) (hr0 : Kd.C (Kd.int .i64) w A0 l0.length l0) (hc0 : l0.length ≤ c0) (hr1 : Kd.C (Kd.int .i64) w A1 l1.length l1) (hc1 : l1.length ≤ c1) (h : cordonref03_Ints.f k l0 l1 = some r) :
    Calls Try.prog 68 #[.slice A0 l0.length c0, .slice A1 l1.length c1] w fun e w' => e = .returned (.bool r) ∧ Drawn0 w w' := by
  have HR0 := Aside0.mk hr0
  have HC0 := Aside0.mk hc0
  clear hr0 hc0
  have HR1 := Aside0.mk hr1
  have HC1 := Aside0.mk hc1
  clear hr1 hc1
  have H : (if (l0.length : Int) = (l1.length : Int) then (cordonref03_Ints.l0 k l0 l1 0) else (some false)) = some r := h
  clear h
  by_cases c3 : (l0.length : Int) = (l1.length : Int)
  · rw [if_pos c3] at H
    have c3b0 : ((l0.length : Int) == (l1.length : Int)) = true := beq_iff_eq.mpr c3
    have c3b1 : ((l0.length : Int) != (l1.length : Int)) = false := bne_eq_false_iff_eq.mpr c3
    have c3b2 : (l0.length == l1.length) = true := by first | simpa using c3 | (simp at c3 ⊢; omega)
    clear c3
    have H' := Aside0.mk H
    clear H
    go_enter Try.func68, Try.ntmps68
    go_wp2
    repeat (go_quiet (fail); try go_wp2)
    go_loopg [5] k (fun kq v5 w' => ∃ (x5_1 : Int), v5 = .int .i64 x5_1 ∧ Aside0 (cordonref03_Ints.l0 kq l0 l1 x5_1 = some r) ∧ Aside0 (kq ≤ k) ∧ Drawn0 w w')
    case atStart => exact ⟨(0), (by first | rfl | (simp; done) | (simp [*]; done)), H', ⟨Nat.le_refl _⟩, by repeat (first | exact Drawn0.refl _ | apply Drawn0.step)⟩
    case round =>
      clear H'
      try clear c1
      try clear p2
      try clear c3
      try clear c3b0
      try clear c3b1
      try clear c3b2
      obtain ⟨x5_1, rfl, HA, HK1, ⟨m1, rfl⟩⟩ := hrel
      cases gk with
      | zero => exact absurd HA.out (by simp [cordonref03_Ints.l0])
      | succ k1 =>
        have H := HA.out
        clear HA
        simp only [cordonref03_Ints.l0] at H
        by_cases c4 : x5_1 < (l0.length : Int)
        · rw [if_pos c4] at H
          have c4b0 : decide (x5_1 < (l0.length : Int)) = true := decide_eq_true c4
          clear c4
          by_cases c5 : 0 ≤ x5_1
          · rw [if_pos c5] at H
            have c5b0 : decide (0 ≤ x5_1) = true := decide_eq_true c5
            clear c5
            by_cases c6 : x5_1 < (l1.length : Int)
            · rw [if_pos c6] at H
              have c6b0 : decide (x5_1 < (l1.length : Int)) = true := decide_eq_true c6
              clear c6
              by_cases c7 : (rd l0 x5_1) = (rd l1 x5_1)
              · rw [if_pos c7] at H
                have c7b0 : ((rd l0 x5_1) == (rd l1 x5_1)) = true := beq_iff_eq.mpr c7
                have c7b1 : ((rd l0 x5_1) != (rd l1 x5_1)) = false := bne_eq_false_iff_eq.mpr c7
                clear c7
                have H' := Aside0.mk H
                clear H
                have p719 : 0 ≤ (x5_1 : Int) := of_decide_eq_true (by first | (with_reducible assumption) | assumption)
                have q719 : x5_1 < (l0.length : Int) := of_decide_eq_true (by first | (with_reducible assumption) | assumption)
                obtain ⟨ad719, e719, hx719_0⟩ := Kd.at_int HR0.out x5_1 p719 q719
                cases e719
                replace p719 := eq_true p719
                replace q719 := eq_true q719
                have p720 : 0 ≤ (x5_1 : Int) := of_decide_eq_true (by first | (with_reducible assumption) | assumption)
                have q720 : x5_1 < (l1.length : Int) := of_decide_eq_true (by first | (with_reducible assumption) | assumption)
                obtain ⟨ad720, e720, hx720_0⟩ := Kd.at_int HR1.out x5_1 p720 q720
                cases e720
                replace p720 := eq_true p720
                replace q720 := eq_true q720
                go_wp2
                repeat (go_quiet (fail); try go_wp2)
                go_roundg k1
                case measure => have := HK1.out; omega
                case rel => exact ⟨(wrap64 (x5_1 + 1)), (by first | rfl | (simp; done) | (simp [*]; done)), H', ⟨by have := HK1.out; omega⟩, by repeat (first | exact Drawn0.refl _ | apply Drawn0.step)⟩
              · rw [if_neg c7] at H
                have c7b0 : ((rd l0 x5_1) == (rd l1 x5_1)) = false := beq_eq_false_iff_ne.mpr c7
                have c7b1 : ((rd l0 x5_1) != (rd l1 x5_1)) = true := bne_iff_ne.mpr c7
                obtain rfl := Option.some.inj H
                have p719 : 0 ≤ (x5_1 : Int) := of_decide_eq_true (by first | (with_reducible assumption) | assumption)
                have q719 : x5_1 < (l0.length : Int) := of_decide_eq_true (by first | (with_reducible assumption) | assumption)
                obtain ⟨ad719, e719, hx719_0⟩ := Kd.at_int HR0.out x5_1 p719 q719
                cases e719
                replace p719 := eq_true p719
                replace q719 := eq_true q719
                have p720 : 0 ≤ (x5_1 : Int) := of_decide_eq_true (by first | (with_reducible assumption) | assumption)
                have q720 : x5_1 < (l1.length : Int) := of_decide_eq_true (by first | (with_reducible assumption) | assumption)
                obtain ⟨ad720, e720, hx720_0⟩ := Kd.at_int HR1.out x5_1 p720 q720
                cases e720
                replace p720 := eq_true p720
                replace q720 := eq_true q720
                go_wp2
                repeat (go_quiet (fail); try go_wp2)
                go_ret
                exact ⟨by first | rfl | (simp; done) | (simp [*]; done), by repeat (first | exact Drawn0.refl _ | apply Drawn0.step)⟩
            · rw [if_neg c6] at H
              exact absurd H (by simp)
          · rw [if_neg c5] at H
            exact absurd H (by simp)
        · rw [if_neg c4] at H
          have c4b0 : decide (x5_1 < (l0.length : Int)) = false := decide_eq_false c4
          clear c4
          obtain rfl := Option.some.inj H
          go_wp2
          repeat (go_quiet (fail); try go_wp2)
          go_ret
          exact ⟨by first | rfl | (simp; done) | (simp [*]; done), by repeat (first | exact Drawn0.refl _ | apply Drawn0.step)⟩
  · rw [if_neg c3] at H
    have c3b0 : ((l0.length : Int) == (l1.length : Int)) = false := beq_eq_false_iff_ne.mpr c3
    have c3b1 : ((l0.length : Int) != (l1.length : Int)) = true := bne_iff_ne.mpr c3
    have c3b2 : (l0.length == l1.length) = false := by first | simpa using c3 | (simp at c3 ⊢; omega)
    obtain rfl := Option.some.inj H
    go_enter Try.func68, Try.ntmps68
    go_wp2
    repeat (go_quiet (fail); try go_wp2)
    go_ret
    exact ⟨by first | rfl | (simp; done) | (simp [*]; done), by repeat (first | exact Drawn0.refl _ | apply Drawn0.step)⟩
end Go.Proofs.Ythghflgmeepnlaa.Pa
end
section
namespace Go.Proofs.Ythghflgmeepnlaa.Pa
open Go.RowKit Go.Proofs.YthghflgmeepnlaaW.PrintWords Go.Proofs.YthghflgmeepnlaaW.PrintLast Go.Proofs.YthghflgmeepnlaaW.PrintMore
attribute [local go_sem] max2_int max_two
set_option linter.unusedVariables false
set_option linter.unusedSimpArgs false
def rows_cell.f (k : Nat) (l0 : List (S33)) (a1 : Int) : Option (ByteArray × Bool) := if a1 < 0 then (some ((⟨#[]⟩ : ByteArray), false)) else (if a1 ≥ (l0.length : Int) then (some ((⟨#[]⟩ : ByteArray), false)) else (if 0 ≤ a1 then (if a1 < (l0.length : Int) then (if ((rd_T33 l0 a1).f0) = 0 then (some ((⟨#[]⟩ : ByteArray), false)) else (if a1 ≤ (wrap64 (a1 + 1)) then (if (wrap64 (a1 + 1)) ≤ (l0.length : Int) then ((rows_bytes.f k ((l0.take ((wrap64 (a1 + 1)) : Int).toNat).drop (a1 : Int).toNat)).bind fun t726 => (some (t726, true))) else (none)) else (none))) else (none)) else (none)))
set_option maxHeartbeats 8000000 in
set_option maxRecDepth 100000 in
theorem rows_cell.calls (k : Nat) (A0 : Option Addr) (c0 : Nat) (l0 : List (S33)) (a1 : Int) (r1 : ByteArray) (r2 : Bool) (w : World) (hr0 : Kd.C k33 w A0 l0.length l0) (hc0 : l0.length ≤ c0) (h : rows_cell.f k l0 a1 = some (r1, r2)) :
    Calls Try.prog 105 #[.slice A0 l0.length c0, .int .i64 a1] w fun e w' => e = .returned (.tuple #[.string r1, .bool r2]) ∧ Below w.heap.size w w' := by
  have HR0 := Aside0.mk hr0
  have HC0 := Aside0.mk hc0
  clear hr0 hc0
  have HB := Aside0.mk (Below.refl w.heap.size w)
  have H : (if a1 < 0 then (some ((⟨#[]⟩ : ByteArray), false)) else (if a1 ≥ (l0.length : Int) then (some ((⟨#[]⟩ : ByteArray), false)) else (if 0 ≤ a1 then (if a1 < (l0.length : Int) then (if ((rd_T33 l0 a1).f0) = 0 then (some ((⟨#[]⟩ : ByteArray), false)) else (if a1 ≤ (wrap64 (a1 + 1)) then (if (wrap64 (a1 + 1)) ≤ (l0.length : Int) then ((rows_bytes.f k ((l0.take ((wrap64 (a1 + 1)) : Int).toNat).drop (a1 : Int).toNat)).bind fun t726 => (some (t726, true))) else (none)) else (none))) else (none)) else (none)))) = some (r1, r2) := h
  clear h
  by_cases c3 : a1 < 0
  · rw [if_pos c3] at H
    have c3b0 : decide (a1 < 0) = true := decide_eq_true c3
    clear c3
    simp only [Option.some.injEq, Prod.mk.injEq] at H
    obtain ⟨rfl, rfl⟩ := H
    go_enter Try.func105, Try.ntmps105
    go_wp2
    go_ret2
    exact ⟨by first | rfl | (simp [errW_none, errW_some] <;> rfl) | (simp [*, errW_none, errW_some] <;> rfl), by repeat (first | (with_reducible first | exact HB.out | apply below_alloc | apply pw_below_drewN | apply below_drew1) | exact HB.out)⟩
  · rw [if_neg c3] at H
    have c3b0 : decide (a1 < 0) = false := decide_eq_false c3
    clear c3
    by_cases c4 : a1 ≥ (l0.length : Int)
    · rw [if_pos c4] at H
      have c4b0 : decide ((l0.length : Int) ≤ a1) = true := decide_eq_true c4
      clear c4
      simp only [Option.some.injEq, Prod.mk.injEq] at H
      obtain ⟨rfl, rfl⟩ := H
      go_enter Try.func105, Try.ntmps105
      go_wp2
      go_ret2
      exact ⟨by first | rfl | (simp [errW_none, errW_some] <;> rfl) | (simp [*, errW_none, errW_some] <;> rfl), by repeat (first | (with_reducible first | exact HB.out | apply below_alloc | apply pw_below_drewN | apply below_drew1) | exact HB.out)⟩
    · rw [if_neg c4] at H
      have c4b0 : decide ((l0.length : Int) ≤ a1) = false := decide_eq_false c4
      clear c4
      by_cases c5 : 0 ≤ a1
      · rw [if_pos c5] at H
        have c5b0 : decide (0 ≤ a1) = true := decide_eq_true c5
        clear c5
        by_cases c6 : a1 < (l0.length : Int)
        · rw [if_pos c6] at H
          have c6b0 : decide (a1 < (l0.length : Int)) = true := decide_eq_true c6
          clear c6
          by_cases c7 : ((rd_T33 l0 a1).f0) = 0
          · rw [if_pos c7] at H
            have c7b0 : (((rd_T33 l0 a1).f0) == 0) = true := beq_iff_eq.mpr c7
            have c7b1 : (((rd_T33 l0 a1).f0) != 0) = false := bne_eq_false_iff_eq.mpr c7
            clear c7
            simp only [Option.some.injEq, Prod.mk.injEq] at H
            obtain ⟨rfl, rfl⟩ := H
            have p721 : 0 ≤ (a1 : Int) := of_decide_eq_true (by first | (with_reducible assumption) | assumption)
            have q721 : a1 < (l0.length : Int) := of_decide_eq_true (by first | (with_reducible assumption) | assumption)
            obtain ⟨ad721, e721, hx721_0, hx721_1, hx721_2⟩ := at_T33 HR0.out a1 p721 q721
            cases e721
            replace p721 := eq_true p721
            replace q721 := eq_true q721
            go_enter Try.func105, Try.ntmps105
            go_wp2
            go_ret2
            exact ⟨by first | rfl | (simp [errW_none, errW_some] <;> rfl) | (simp [*, errW_none, errW_some] <;> rfl), by repeat (first | (with_reducible first | exact HB.out | apply below_alloc | apply pw_below_drewN | apply below_drew1) | exact HB.out)⟩
          · rw [if_neg c7] at H
            have c7b0 : (((rd_T33 l0 a1).f0) == 0) = false := beq_eq_false_iff_ne.mpr c7
            have c7b1 : (((rd_T33 l0 a1).f0) != 0) = true := bne_iff_ne.mpr c7
            have c8b0 := eq_true (of_decide_eq_true (by first | (with_reducible assumption) | assumption) : 0 ≤ a1)
            by_cases c9 : a1 ≤ (wrap64 (a1 + 1))
            · rw [if_pos c9] at H
              have c9b0 := eq_true c9
              have c9b1 : decide (a1 ≤ (wrap64 (a1 + 1))) = true := decide_eq_true c9
              by_cases c10 : (wrap64 (a1 + 1)) ≤ (l0.length : Int)
              · rw [if_pos c10] at H
                have c10b0 := eq_true c10
                have c10b1 : decide ((wrap64 (a1 + 1)) ≤ (l0.length : Int)) = true := decide_eq_true c10
                obtain ⟨y722, hy722⟩ : ∃ y_ : List (S33), y_ = ((l0.take ((wrap64 (a1 + 1)) : Int).toNat).drop (a1 : Int).toNat) := ⟨_, rfl⟩
                replace H : ((rows_bytes.f k y722).bind fun t726 => (some (t726, true))) = some (r1, r2) := by first | (rw [hy722]; with_reducible exact H) | (have H2_ := (Option.bind_some _ _).symm.trans H; rw [hy722]; with_reducible exact H2_) | (have H2_ := (Option.bind_some _ _).symm.trans H; with_reducible exact H2_) | with_reducible exact H | (rw [hy722]; exact H) | exact H
                have Ny722 := Aside0.mk hy722
                clear hy722
                replace H := Option.bind_eq_some_iff.mp H
                obtain ⟨t726, A110, H⟩ := H
                replace H : (some (t726, true)) = some (r1, r2) := H
                have A11 := Aside0.mk A110
                clear A110
                simp only [Option.some.injEq, Prod.mk.injEq] at H
                obtain ⟨rfl, rfl⟩ := H
                have p721 : 0 ≤ (a1 : Int) := of_decide_eq_true (by first | (with_reducible assumption) | assumption)
                have q721 : a1 < (l0.length : Int) := of_decide_eq_true (by first | (with_reducible assumption) | assumption)
                obtain ⟨ad721, e721, hx721_0, hx721_1, hx721_2⟩ := at_T33 HR0.out a1 p721 q721
                cases e721
                replace p721 := eq_true p721
                replace q721 := eq_true q721
                have q12 : ((wrap64 (a1 + 1)) : Int) ≤ ((l0.length : Int) : Int) := of_decide_eq_true (by first | (with_reducible assumption) | assumption)
                obtain ⟨i012, hi012, _, hsz12, _⟩ := info_parts info33
                have hroom12 : l0.length ≤ c0 := HC0.out
                have hC12 : Kd.C k33 _ (some ad721) l0.length l0 := HR0.out
                have ql12 : (a1 : Int) ≤ ((wrap64 (a1 + 1)) : Int) := of_decide_eq_true (by first | (with_reducible assumption) | assumption)
                have q012 : (0 : Int) ≤ (a1 : Int) := of_decide_eq_true (by first | (with_reducible assumption) | assumption)
                have hcut12 := cut_mid (P := Try.prog) 22 33 .i64 .i64 Try.underlying22 hi012 3 hsz12 (some ad721) l0.length c0 a1 (wrap64 (a1 + 1)) q012 ql12 q12 hroom12
                have hr12 := Kd.C_mid (lo := (a1 : Int).toNat) (hi := ((wrap64 (a1 + 1)) : Int).toNat) (c := c0) hC12 (by omega) (by omega) hroom12
                obtain ⟨A12, hA12⟩ : ∃ A1, A1 = (if c0 = (a1 : Int).toNat then (some ad721) else ((some ad721) : Option Addr).map (·.add ((a1 : Int).toNat * 3))) := ⟨_, rfl⟩
                obtain ⟨c12, hc12⟩ : ∃ c1, c1 = c0 - (a1 : Int).toNat := ⟨_, rfl⟩
                have hy12 : y722.length = ((wrap64 (a1 + 1)) : Int).toNat - (a1 : Int).toNat := (by rw [Ny722.out, List.length_drop, List.length_take] <;> omega)
                rw [show ((l0).take ((wrap64 (a1 + 1)) : Int).toNat).drop (a1 : Int).toNat = y722 from Ny722.out.symm] at hr12
                replace hr12 : Kd.C k33 _ A12 y722.length y722 := (by rw [hA12]; exact hr12)
                rw [← hy12, ← hA12, ← hc12] at hcut12
                have HR725 := Aside0.mk hr12
                have HC725 := Aside0.mk (show y722.length ≤ c12 from by rw [hy12, hc12]; exact Nat.sub_le_sub_right (Nat.le_trans (by omega) hroom12) _)
                clear hr12 hC12 hroom12 hi012 hsz12 hc12
                have KY12 := Aside0.mk hy12
                have KA12 := Aside0.mk hA12
                clear hy12 hA12
                replace q12 := eq_true q12
                go_enter Try.func105, Try.ntmps105
                go_wp2_with (first | ((with_reducible refine gate_callee (f := 98) rfl ?_); refine goesL_ (some 27) rfl rfl Try.func98 (by kernel_rfl) rfl #[.slice A12 y722.length c12] rfl (by (try simp only [List.map_toArray, List.map_cons, List.map_nil]); first | done | rfl | (simp only [List.length_drop, List.length_take]; rfl)) ?_; (with_reducible refine (rows_bytes.calls k _ _ y722 t726 _ ?side1 ?side2 A11.out).mono ?_); (case side1 => repeat (first | exact HR725.out | (with_reducible refine Kd.C_alloc ?_ _) | (with_reducible refine Kd.C_drewN ?_ _) | (with_reducible refine Kd.C_drew ?_))); (case side2 => exact HC725.out); rintro e w13 ⟨rfl, hb⟩; refine ⟨_, rfl, ?_⟩; have n0_ := Aside0.mk (below_step (by repeat (first | (with_reducible first | exact HB.out | apply below_alloc | apply pw_below_drewN | apply below_drew1) | exact HB.out)) hb); clear HB; have HB := n0_; clear n0_; (try clear hb); (try clear hb2); (try clear hk); (try clear hi)))
                go_ret2
                exact ⟨by first | rfl | (simp [errW_none, errW_some] <;> rfl) | (simp [*, errW_none, errW_some] <;> rfl), by repeat (first | (with_reducible first | exact HB.out | apply below_alloc | apply pw_below_drewN | apply below_drew1) | exact HB.out)⟩
              · rw [if_neg c10] at H
                exact absurd H (by simp)
            · rw [if_neg c9] at H
              exact absurd H (by simp)
        · rw [if_neg c6] at H
          exact absurd H (by simp)
      · rw [if_neg c5] at H
        exact absurd H (by simp)
end Go.Proofs.Ythghflgmeepnlaa.Pa
end
section
namespace Go.Proofs.Ythghflgmeepnlaa.Pa
open Go.RowKit Go.Proofs.YthghflgmeepnlaaW.PrintWords Go.Proofs.YthghflgmeepnlaaW.PrintLast Go.Proofs.YthghflgmeepnlaaW.PrintMore
attribute [local go_sem] max2_int max_two
set_option linter.unusedVariables false
set_option linter.unusedSimpArgs false
end Go.Proofs.Ythghflgmeepnlaa.Pa
end
section
namespace Go.Proofs.Ythghflgmeepnlaa.Pa
open Go.RowKit Go.Proofs.YthghflgmeepnlaaW.PrintWords Go.Proofs.YthghflgmeepnlaaW.PrintLast Go.Proofs.YthghflgmeepnlaaW.PrintMore
set_option linter.unusedVariables false
set_option linter.unusedSimpArgs false
/-- What can be read of type t is of kind d, and good. -/
def Opens {H : Type} (enc : TypeId × Value → H) (w : World) (t : TypeId) {α : Type} (d : Kd α) (good : α → Prop) : Prop :=
  ∀ (fuel : Nat) (cs : List Value) (x : DataW H × List MemPlace), DataW.trod enc Try.prog w 0 (fun _ => true) true fuel t cs = some x → ∃ v, d.K w v cs ∧ good v
section
variable {H : Type} {enc : TypeId × Value → H} {w : World}
/-- A value as it may come in. -/
def okv (x : S33) : Prop := (Lit.int .i64 x.f0).wf = true ∧ (Lit.int .i64 x.f1).wf = true ∧ x.f2.size ≤ maxLen
set_option maxRecDepth 10000 in
theorem opens_33 : Opens enc w 33 k33 okv := by
  intro fuel cs x h
  obtain ⟨y0, y1, y2, n, _, hl, h0, h1, h2⟩ := Go.Deep.trod_struct3 Try.underlying33 h
  have hc : Try.prog.cellsOf 33 = 3 := by kernel_rfl
  have hc3 : Try.prog.cellsOf 3 = 1 := by kernel_rfl
  have hc9 : Try.prog.cellsOf 9 = 1 := by kernel_rfl
  rw [hc] at hl
  match cs, hl with
  | [c0, c1, c2], _ =>
    simp only [hc3, hc9, List.drop_zero, List.drop_succ_cons, List.take_succ_cons, List.take_zero] at h0 h1 h2
    obtain ⟨n0, e0, _, w0⟩ := DataW.trod_int Try.underlying3 h0
    obtain ⟨n1, e1, _, w1⟩ := DataW.trod_int Try.underlying3 h1
    obtain ⟨s2, e2, _, w2⟩ := DataW.trod_string Try.underlying9 h2
    simp only [List.cons.injEq, and_true] at e0 e1 e2
    subst e0 e1 e2
    exact ⟨⟨n0, n1, s2⟩, k33_mk w ⟨n0, n1, s2⟩, w0, w1, w2⟩
theorem opens_slice {t e : TypeId} {α : Type} {d : Kd α} {good : α → Prop} (ht : Try.prog.underlying t = some (.slice e)) (hs : Try.prog.cellsOf e = d.sz) (hz : 0 < d.sz) (he : Opens enc w e d good) :
    Opens enc w t (Kd.slice e d) (fun xs => xs.length ≤ maxLen ∧ ∀ x ∈ xs, good x) := by
  intro fuel cs x h
  rcases Go.Deep.open_slice ht h with ⟨rfl, _⟩ | ⟨a, len, cap, m, n, D, Pl, rfl, _, hl, hm, hmm, _, hi⟩
  · exact ⟨[], ⟨none, 0, rfl, Nat.le_refl _, rfl, by simp, fun h => absurd h (by simp)⟩, by simp, by simp⟩
  · have hlm : len ≤ m := by simp at hmm; omega
    have key : ∀ i : Nat, ∃ v : Option α, i < len → ∃ y cs', v = some y ∧ w.cells? 0 (a.add (i * d.sz)) d.sz = some cs' ∧ d.K w y cs' ∧ good y := by
      intro i
      by_cases hil : i < len
      · obtain ⟨cs', h1, h2⟩ := hi i (by omega)
        obtain ⟨y, hk, hg⟩ := he n cs' _ h2
        rw [hs] at h1
        exact ⟨some y, fun _ => ⟨y, cs', rfl, h1, hk, hg⟩⟩
      · exact ⟨none, fun h => absurd h hil⟩
    have key2 : ∃ xs : List α, xs.length = len ∧ ∀ i y, xs[i]? = some y → ∃ cs', w.cells? 0 (a.add (i * d.sz)) d.sz = some cs' ∧ d.K w y cs' ∧ good y := by
      have : ∀ k, k ≤ len → ∃ xs : List α, xs.length = k ∧ ∀ i y, xs[i]? = some y → ∃ cs', w.cells? 0 (a.add (i * d.sz)) d.sz = some cs' ∧ d.K w y cs' ∧ good y := by
        intro k
        induction k with
        | zero => exact fun _ => ⟨[], rfl, by simp⟩
        | succ k ih =>
          intro hk
          obtain ⟨xs, hx, hp⟩ := ih (by omega)
          obtain ⟨v, hv⟩ := key k
          obtain ⟨y, cs', _, h1, h2, h3⟩ := hv (by omega)
          refine ⟨xs ++ [y], by simp [hx], fun i z hz => ?_⟩
          by_cases hik : i < k
          · rw [List.getElem?_append_left (by omega)] at hz
            exact hp i z hz
          · rw [List.getElem?_append_right (by omega)] at hz
            have : i = k := by
              rcases Nat.eq_zero_or_pos (i - xs.length) with h0 | h0
              · omega
              · rw [List.getElem?_eq_none (by simp; omega)] at hz
                cases hz
            subst this
            rw [hx] at hz
            simp at hz
            subst hz
            exact ⟨cs', h1, h2, h3⟩
      exact this len (Nat.le_refl _)
    obtain ⟨xs, hx, hp⟩ := key2
    refine ⟨xs, ⟨some a, cap, by rw [hx], by omega, rfl, by rw [hx]; unfold maxLen at hm; omega, fun _ => ⟨a, rfl, fun j p hj => ?_⟩⟩, by rw [hx]; exact Nat.le_trans hl hm, fun y hy => ?_⟩
    · obtain ⟨cs', h1, h2, _⟩ := hp j p hj
      refine ⟨cs', d.K_len h2, h2, fun i u hu => ?_⟩
      obtain ⟨_, h4, h5⟩ := World.cells?_some h1
      have hlt : i < d.sz := by
        rcases Nat.lt_or_ge i d.sz with h | h
        · exact h
        · rw [List.getElem?_eq_none (by omega)] at hu
          cases hu
      rw [← hu, ← h5 i hlt, Go.Deep.add_add]
    · obtain ⟨i, hi⟩ := List.getElem?_of_mem hy
      obtain ⟨_, _, _, hg⟩ := hp i y hi
      exact hg
end
end Go.Proofs.Ythghflgmeepnlaa.Pa
end
section
namespace Go.Proofs.Ythghflgmeepnlaa.Pa
open Go.RowKit Go.Proofs.YthghflgmeepnlaaW.PrintWords Go.Proofs.YthghflgmeepnlaaW.PrintLast Go.Proofs.YthghflgmeepnlaaW.PrintMore
set_option linter.unusedVariables false
set_option linter.unusedSimpArgs false
theorem xor_low (b : Nat) (h : b < 9223372036854775808) : b ^^^ 9223372036854775808 = 9223372036854775808 + b := by
  have e : (9223372036854775808 : Nat) = 2 ^ 63 := by decide
  rw [e] at h ⊢
  apply Nat.eq_of_testBit_eq
  intro i
  rw [Nat.testBit_xor, Nat.testBit_two_pow]
  rcases Nat.lt_trichotomy i 63 with h1 | rfl | h1
  · rw [Nat.testBit_two_pow_add_gt h1, show decide (63 = i) = false from decide_eq_false (by omega)]
    simp
  · rw [Nat.testBit_two_pow_add_eq, Nat.testBit_lt_two_pow h]
    simp
  · rw [Nat.testBit_lt_two_pow (show b < 2 ^ i from Nat.lt_of_lt_of_le h (Nat.pow_le_pow_right (by decide) (by omega)))]
    rw [Nat.testBit_lt_two_pow (show 2 ^ 63 + b < 2 ^ i from Nat.lt_of_lt_of_le (by omega : 2 ^ 63 + b < 2 ^ 64) (Nat.pow_le_pow_right (by decide) (by omega)))]
    rw [show decide (63 = i) = false from decide_eq_false (by omega)]
    simp
theorem xor_top (a : Nat) (h : a < 18446744073709551616) : a ^^^ 9223372036854775808 = (a + 9223372036854775808) % 18446744073709551616 := by
  by_cases h1 : a < 9223372036854775808
  · rw [xor_low a h1]; omega
  · obtain ⟨b, rfl⟩ : ∃ b, a = 9223372036854775808 + b := ⟨a - 9223372036854775808, by omega⟩
    rw [← xor_low b (by omega), Nat.xor_assoc, Nat.xor_self, Nat.xor_zero, xor_low b (by omega)]
    omega
/-- A number's word: 2^63 more. -/
def wordN (n : Int) : Nat := ((n + 9223372036854775808) % 18446744073709551616).toNat
theorem u64_wrap (n : Int) : IntKind.u64.wrap n = n % 18446744073709551616 := by
  unfold IntKind.wrap
  simp [IntKind.bits, IntKind.signed]
theorem wordN_lt (n : Int) : wordN n < 18446744073709551616 := by unfold wordN; omega
theorem xor_word (n : Int) : Go.bits .xor .u64 (IntKind.u64.wrap n) 9223372036854775808 = (wordN n : Int) := by
  rw [u64_wrap, Go.u64_xor _ _ (by omega) (by omega) (by omega) (by omega)]
  rw [show (9223372036854775808 : Int).toNat = 9223372036854775808 from rfl, xor_top _ (by omega)]
  unfold wordN
  omega
def toI (l : List UInt8) : List Int := l.map fun b => (b.toNat : Int)
theorem toI_append (a b : List UInt8) : toI (a ++ b) = toI a ++ toI b := by simp [toI]
theorem toI_length (a : List UInt8) : (toI a).length = a.length := by simp [toI]
theorem str_toI (l : List UInt8) : strOfNums (toI l) = ⟨l.toArray⟩ := by
  unfold strOfNums toI
  congr 2
  rw [List.map_map]
  conv => rhs; rw [← List.map_id l]
  apply List.map_congr_left
  intro b _
  simp
/-- The lowest i bytes of a word, the highest first. -/
def downN (W : Nat) : Nat → List UInt8
  | 0 => []
  | i + 1 => UInt8.ofNat (W / 2 ^ (8 * i)) :: downN W i
theorem downN_length (W i : Nat) : (downN W i).length = i := by induction i <;> simp_all [downN]
def encN (n : Int) : List UInt8 := downN (wordN n) 8
def encT : List UInt8 → List UInt8
  | [] => []
  | c :: l => if c = 0 then 0 :: 255 :: encT l else c :: encT l
theorem encT_length (l : List UInt8) : (encT l).length ≤ 2 * l.length := by
  induction l with
  | nil => simp [encT]
  | cons c l ih => unfold encT; split <;> simp <;> omega
def txt (s : ByteArray) : List UInt8 := s.data.toList
/-- A right value's bytes. -/
def encB (x : S33) : List UInt8 :=
  if x.f0 = 1 then [UInt8.ofNat (2 + x.f1).toNat] else if x.f0 = 2 then 4 :: encN x.f1 else if x.f0 = 3 then 5 :: (encT (txt x.f2) ++ [0, 0]) else [1]
/-- Which value is right. -/
def rightV (x : S33) : Int :=
  if x.f0 = 0 then (if x.f1 = 0 ∧ txt x.f2 = [] then 0 else 2)
  else if x.f0 = 1 then (if (x.f1 = 0 ∨ x.f1 = 1) ∧ txt x.f2 = [] then 0 else 2)
  else if x.f0 = 2 then (if txt x.f2 = [] then 0 else 2)
  else if x.f0 = 3 then (if x.f1 = 0 then (if x.f2.size > 1000 then 8 else 0) else 2) else 2
theorem toList_txt (s : ByteArray) : s.toList = txt s := ByteArray.toList_eq s
theorem byte_of (W i : Nat) : ((W : Int) / 2 ^ (8 * i)) % 256 = ((UInt8.ofNat (W / 2 ^ (8 * i))).toNat : Int) := by
  simp
theorem put_num (n : Int) (a0 : Int) (a2 : ByteArray) (i : Nat) : ∀ (k : Nat) (l : List Int), i ≤ 8 → l.length + i < 140737488355328 → code_put.l0 (k + i + 1) l ((i : Int) - 1) a0 n a2 = some (l ++ toI (downN (wordN n) i)) := by
  induction i with
  | zero =>
    intro k l _ _
    rw [code_put.l0]
    rw [if_neg (by omega)]
    simp [downN, toI]
  | succ i ih =>
    intro k l hi hl
    have e : (((i + 1 : Nat) : Int) - 1) = (i : Int) := by omega
    rw [e, show k + (i + 1) + 1 = (k + i + 1) + 1 from by omega]
    rw [code_put.l0]
    have w1 : wrap64 (8 * (i : Int)) = 8 * (i : Int) := by unfold wrap64; omega
    have w2 : wrap64 ((i : Int) - 1) = (i : Int) - 1 := by unfold wrap64; omega
    rw [if_pos (by omega), w1, if_pos (by omega), if_pos (by omega), w2, ih k _ (by omega) (by simp; omega), xor_word]
    have w3 : shr .u64 (wordN n : Int) (8 * (i : Int)) = (wordN n : Int) / 2 ^ (8 * i) := by
      unfold shr
      rw [show (8 * (i : Int)).toNat = 8 * i from by omega, Nat.min_eq_left (by simp [IntKind.bits]; omega)]
    rw [w3, byte_of]
    simp [downN, toI]
theorem bt_cons {s : ByteArray} {i : Nat} (h : i < s.size) : ∃ c, bt s (i : Int) = ((c : UInt8).toNat : Int) ∧ (txt s).drop i = c :: (txt s).drop (i + 1) := by
  refine ⟨s[i], ?_, ?_⟩
  · show (if h : (i : Int).toNat < s.size then ((s[(i : Int).toNat]'h).toNat : Int) else 0) = _
    rw [dif_pos (show (i : Int).toNat < s.size from h)]
    rfl
  · have h' : i < (txt s).length := by simpa [txt] using h
    rw [List.drop_eq_getElem_cons h']
    rfl
theorem txt_length (s : ByteArray) : (txt s).length = s.size := by
  show s.data.toList.length = s.data.size
  simp
theorem txt_empty : txt ⟨#[]⟩ = [] := rfl
theorem u8_zero (c : UInt8) : ((c.toNat : Int) = 0) ↔ c = 0 := by
  constructor
  · intro h
    refine UInt8.toNat_inj.1 ?_
    have : (0 : UInt8).toNat = 0 := rfl
    omega
  · rintro rfl; rfl
theorem put_text (s : ByteArray) (hs : s.size ≤ 9223372036854775807) (a0 a1 : Int) (d : Nat) : ∀ (k i : Nat) (l : List Int), i + d = s.size → l.length + 2 * d + 2 < 140737488355328 →
    code_put.l1 (k + d + 1) l (s.size : Int) (i : Int) a0 a1 s = some (l ++ toI (encT ((txt s).drop i) ++ [0, 0])) := by
  induction d with
  | zero =>
    intro k i l hd hl
    rw [code_put.l1, if_neg (by omega)]
    simp only [Option.bind_some]
    rw [if_pos (by simp; omega), List.drop_eq_nil_of_le (by rw [txt_length]; omega)]
    simp [encT, toI]
  | succ d ih =>
    intro k i l hd hl
    obtain ⟨c, hc, hdrop⟩ := bt_cons (show i < s.size by omega)
    rw [show k + (d + 1) + 1 = (k + d + 1) + 1 from by omega, code_put.l1, if_pos (by omega), if_pos (by omega), if_pos (by omega), if_pos (by omega), hc]
    have w : wrap64 ((i : Int) + 1) = ((i + 1 : Nat) : Int) := by unfold wrap64; omega
    simp only [Option.bind_some, w]
    by_cases h0 : c = 0
    · rw [if_pos ((u8_zero c).2 h0), if_pos (by simp; omega), ih k (i + 1) _ (by omega) (by simp; omega), hdrop, h0]
      simp [encT, toI]
    · rw [if_neg (fun e => h0 ((u8_zero c).1 e)), ih k (i + 1) _ (by omega) (by simp; omega), hdrop]
      simp [encT, toI, h0]
theorem right_is (k : Nat) (x : S33) : value_Right.f (k + 1) x.f0 x.f1 x.f2 = some (rightV x) := by
  unfold value_Right.f rightV value_Null.f
  by_cases h0 : x.f0 = 0
  · simp only [h0, Option.bind_some, if_true]
    by_cases h1 : x.f1 = 0 <;> by_cases h2 : txt x.f2 = [] <;> simp [h1, h2, toList_txt, txt_empty]
  · simp only [h0, if_false]
    by_cases h1 : x.f0 = 1
    · simp only [h1, if_true]
      rw [value_Right.j0, value_Right.j0]
      by_cases h2 : x.f1 < 0
      · rw [if_pos h2]; simp; omega
      · rw [if_neg h2]
        by_cases h3 : x.f1 > 1
        · simp [h3]; omega
        · have : x.f1 = 0 ∨ x.f1 = 1 := by omega
          by_cases h4 : txt x.f2 = [] <;> simp [h3, h4, this, toList_txt]
    · by_cases h2 : x.f0 = 2
      · by_cases h4 : txt x.f2 = [] <;> simp [h2, h4, toList_txt]
      · by_cases h3 : x.f0 = 3
        · by_cases h4 : x.f1 = 0
          · by_cases h5 : x.f2.size > 1000
            · rw [if_neg h1, if_neg h2, if_pos h3, if_pos h4, if_pos (by omega), if_neg h1, if_neg h2, if_pos h3, if_pos h4, if_pos h5]
            · rw [if_neg h1, if_neg h2, if_pos h3, if_pos h4, if_neg (by omega), if_neg h1, if_neg h2, if_pos h3, if_pos h4, if_neg h5]
          · simp [h3, h4]
        · simp [h1, h2, h3]
theorem right_ref (k : Nat) (x : S33) : cordonref01_Right.f (k + 1) x.f0 x.f1 x.f2 = some (rightV x) := by
  unfold cordonref01_Right.f rightV
  simp only [cordonref01_Right.j0, toList_txt]
  by_cases h0 : x.f0 = 0
  · by_cases h1 : x.f1 = 0 <;> by_cases h2 : txt x.f2 = [] <;> simp [h0, h1, h2]
  · by_cases h1 : x.f0 = 1
    · by_cases h2 : x.f1 = 0
      · by_cases h3 : txt x.f2 = [] <;> simp [h1, h2, h3]
      · by_cases h4 : x.f1 = 1
        · by_cases h3 : txt x.f2 = [] <;> simp [h1, h4, h3]
        · simp [h1, h2, h4]
    · by_cases h2 : x.f0 = 2
      · by_cases h4 : txt x.f2 = [] <;> simp [h2, h4]
      · by_cases h3 : x.f0 = 3
        · by_cases h4 : x.f1 = 0
          · by_cases h5 : x.f2.size > 1000
            · have : (x.f2.size : Int) > 1000 := by omega
              simp [h3, h4, h5, this]
            · have : ¬ (x.f2.size : Int) > 1000 := by omega
              simp only [h3, h4, h5, this]; simp
          · simp [h3, h4]
        · simp [h0, h1, h2, h3]
theorem right_small {x : S33} (h : rightV x = 0) (h3 : x.f0 = 3) : x.f2.size ≤ 1000 := by
  unfold rightV at h
  rw [if_neg (by omega), if_neg (by omega), if_neg (by omega), if_pos h3] at h
  by_cases h4 : x.f1 = 0
  · rw [if_pos h4] at h
    by_cases h5 : x.f2.size > 1000
    · rw [if_pos h5] at h; cases h
    · omega
  · rw [if_neg h4] at h; cases h
theorem right_bool {x : S33} (h : rightV x = 0) (h1 : x.f0 = 1) : x.f1 = 0 ∨ x.f1 = 1 := by
  unfold rightV at h
  rw [if_neg (by omega), if_pos h1] at h
  by_cases h4 : (x.f1 = 0 ∨ x.f1 = 1) ∧ txt x.f2 = []
  · exact h4.1
  · rw [if_neg h4] at h; cases h
theorem encB_length {x : S33} (h : rightV x = 0) : (encB x).length ≤ 2003 := by
  unfold encB
  split
  · simp
  · split
    · simp [encN, downN_length]
    · split
      · rename_i h3
        have := right_small h h3
        have := encT_length (txt x.f2)
        rw [txt_length] at this
        simp; omega
      · simp
theorem put_is (k : Nat) (l : List Int) (x : S33) (h : rightV x = 0) (hl : l.length + 3000 < 140737488355328) : code_put.f (k + 1010) l x.f0 x.f1 x.f2 = some (l ++ toI (encB x)) := by
  unfold code_put.f encB
  by_cases h1 : x.f0 = 1
  · rw [if_pos h1, if_pos (by omega), if_pos h1]
    rcases right_bool h h1 with h2 | h2 <;> rw [h2] <;> (simp [toI, wrap64])
  · by_cases h2 : x.f0 = 2
    · rw [if_neg h1, if_pos h2, if_pos (by omega), if_neg h1, if_pos h2]
      have := put_num x.f1 x.f0 x.f2 8 (k + 1001) (l ++ [4]) (by omega) (by simp; omega)
      rw [show k + 1010 = k + 1001 + 8 + 1 from by omega]
      rw [show ((8 : Nat) : Int) - 1 = 7 from by omega] at this
      rw [this]
      simp [encN, toI]
    · by_cases h3 : x.f0 = 3
      · have hs := right_small h h3
        rw [if_neg h1, if_neg h2, if_pos h3, if_pos (by omega), if_neg h1, if_neg h2, if_pos h3]
        have := put_text x.f2 (by omega) x.f0 x.f1 x.f2.size (k + 1009 - x.f2.size) 0 (l ++ [5]) (by omega) (by simp; omega)
        rw [show k + 1009 - x.f2.size + x.f2.size + 1 = k + 1010 from by omega] at this
        rw [show ((0 : Nat) : Int) = 0 from rfl] at this
        rw [this]
        simp [toI]
      · rw [if_neg h1, if_neg h2, if_neg h3, if_pos (by omega), if_neg h1, if_neg h2, if_neg h3]
        simp [toI]
/-- The first error of a row, or 0. -/
def errR : List S33 → Int
  | [] => 0
  | x :: l => if rightV x = 0 then errR l else rightV x
def bytesR (l : List S33) : List UInt8 := l.flatMap encB
def encode (l : List S33) : ByteArray × Int := if errR l ≠ 0 then (⟨#[]⟩, errR l) else if l.length > 40 then (⟨#[]⟩, 8) else (⟨(bytesR l).toArray⟩, 0)
theorem errR_drop {l : List S33} {i : Nat} {x : S33} (h : l[i]? = some x) : errR (l.drop i) = if rightV x = 0 then errR (l.drop (i + 1)) else rightV x := by
  obtain ⟨hi, rfl⟩ := List.getElem?_eq_some_iff.1 h
  rw [List.drop_eq_getElem_cons hi]; rfl
theorem errR_all : ∀ {l : List S33}, errR l = 0 → ∀ x ∈ l, rightV x = 0
  | [], _, x, hx => by simp at hx
  | y :: l, h, x, hx => by
    unfold errR at h
    by_cases hy : rightV y = 0
    · rw [if_pos hy] at h
      rcases List.mem_cons.1 hx with rfl | hx
      · exact hy
      · exact errR_all h x hx
    · rw [if_neg hy] at h; exact absurd h hy
theorem errR_zero {l : List S33} (h : ∀ x ∈ l, rightV x = 0) : errR l = 0 := by
  induction l with
  | nil => rfl
  | cons y l ih => unfold errR; rw [if_pos (h y (by simp))]; exact ih fun x hx => h x (by simp [hx])
theorem rd_T33_at {l : List S33} {i : Nat} {x : S33} (h : l[i]? = some x) : rd_T33 l (i : Int) = x := by
  unfold rd_T33
  simp [List.getD_eq_getElem?_getD, h]
theorem bytesR_length {l : List S33} (h : ∀ x ∈ l, rightV x = 0) : (bytesR l).length ≤ 2003 * l.length := by
  induction l with
  | nil => simp [bytesR]
  | cons y l ih =>
    have h1 := encB_length (h y (by simp))
    have h2 := ih fun x hx => h x (by simp [hx])
    unfold bytesR at h2 ⊢
    rw [List.flatMap_cons, List.length_append, List.length_cons]
    omega
theorem enc_l1 (l : List S33) (hr : ∀ x ∈ l, rightV x = 0) (hn : l.length ≤ 40) (d : Nat) : ∀ (k i : Nat), i + d = l.length →
    code_Encode.l1 (k + d + 1011) (toI (bytesR (l.take i))) l (l.length : Int) (i : Int) = some (⟨(bytesR l).toArray⟩, 0) := by
  induction d with
  | zero =>
    intro k i hd
    rw [show k + 0 + 1011 = (k + 1010) + 1 from by omega, code_Encode.l1, if_neg (by omega), List.take_of_length_le (by omega), str_toI]
  | succ d ih =>
    intro k i hd
    obtain ⟨x, hx⟩ : ∃ x, l[i]? = some x := ⟨l[i]'(by omega), List.getElem?_eq_getElem (by omega)⟩
    have hm : x ∈ l := List.mem_of_getElem? hx
    have hb : (bytesR (l.take i)).length ≤ 2003 * 40 := by
      have h1 := bytesR_length (l := l.take i) (fun x hx => hr x (List.mem_of_mem_take hx))
      have h2 : (l.take i).length ≤ 40 := by simp; omega
      omega
    have w : wrap64 ((i : Int) + 1) = ((i + 1 : Nat) : Int) := by unfold wrap64; omega
    rw [show k + (d + 1) + 1011 = (k + d + 1011) + 1 from by omega, code_Encode.l1, if_pos (by omega), if_pos (by omega), if_pos (by omega), rd_T33_at hx,
      show k + d + 1011 = (k + d + 1) + 1010 from by omega, put_is _ _ _ (hr x hm) (by rw [toI_length]; omega), Option.bind_some, w]
    have e : toI (bytesR (l.take i)) ++ toI (encB x) = toI (bytesR (l.take (i + 1))) := by
      rw [List.take_add_one, hx, ← toI_append]
      simp [bytesR]
    rw [e]
    exact ih k (i + 1) (by omega)
theorem enc_l0 (l : List S33) (hl : l.length ≤ 9223372036854775807) (d : Nat) : ∀ (k i : Nat), i + d = l.length → errR (l.take i) = 0 →
    code_Encode.l0 (k + d + l.length + 1020) l l (l.length : Int) (i : Int) = some (encode l) := by
  induction d with
  | zero =>
    intro k i hd h0
    rw [List.take_of_length_le (by omega)] at h0
    rw [show k + 0 + l.length + 1020 = (k + l.length + 1019) + 1 from by omega, code_Encode.l0, if_neg (by omega)]
    have e : encode l = if l.length > 40 then (⟨#[]⟩, 8) else (⟨(bytesR l).toArray⟩, 0) := by
      unfold encode
      rw [if_neg (by rw [h0]; simp)]
    rw [e]
    by_cases h4 : l.length > 40
    · rw [if_pos (by omega), if_pos h4]
    · rw [if_neg (by omega), if_neg h4]
      have := enc_l1 l (errR_all h0) (by omega) l.length (k + 8) 0 (by omega)
      rw [show k + 8 + l.length + 1011 = k + l.length + 1019 from by omega] at this
      exact this
  | succ d ih =>
    intro k i hd h0
    obtain ⟨x, hx⟩ : ∃ x, l[i]? = some x := ⟨l[i]'(by omega), List.getElem?_eq_getElem (by omega)⟩
    have w : wrap64 ((i : Int) + 1) = ((i + 1 : Nat) : Int) := by unfold wrap64; omega
    rw [show k + (d + 1) + l.length + 1020 = (k + d + l.length + 1020) + 1 from by omega, code_Encode.l0, if_pos (by omega), if_pos (by omega), if_pos (by omega), rd_T33_at hx,
      show k + d + l.length + 1020 = (k + d + l.length + 1019) + 1 from by omega, right_is, Option.bind_some]
    by_cases h1 : rightV x = 0
    · rw [if_pos h1, w]
      refine ih k (i + 1) (by omega) ?_
      refine errR_zero fun y hy => ?_
      rw [List.take_add_one, hx] at hy
      rcases List.mem_append.1 hy with hy | hy
      · exact errR_all h0 y hy
      · simp at hy; subst hy; exact h1
    · rw [if_neg h1]
      have : errR l = rightV x := by
        have key : ∀ (a b : List S33), errR a = 0 → errR (a ++ b) = errR b := by
          intro a b h
          induction a with
          | nil => rfl
          | cons y a ih =>
            have hy := errR_all h y (by simp)
            have h' : (if rightV y = 0 then errR a else rightV y) = 0 := h
            rw [if_pos hy] at h'
            show (if rightV y = 0 then errR (a ++ b) else rightV y) = errR b
            rw [if_pos hy]
            exact ih h'
        have e : l = l.take i ++ l.drop i := (List.take_append_drop i l).symm
        rw [e, key _ _ h0, errR_drop hx, if_neg h1]
      unfold encode
      rw [if_pos (by rw [this]; exact h1), this]
theorem encode_is (k : Nat) (l : List S33) (hl : l.length ≤ 9223372036854775807) : code_Encode.f (k + 2 * l.length + 1020) l = some (encode l) := by
  unfold code_Encode.f
  have := enc_l0 l hl l.length k 0 (by omega) rfl
  rw [show k + 2 * l.length + 1020 = k + l.length + l.length + 1020 from by omega]
  exact this
end Go.Proofs.Ythghflgmeepnlaa.Pa
end
section
namespace Go.Proofs.Ythghflgmeepnlaa.Pa
open Go.RowKit Go.Proofs.YthghflgmeepnlaaW.PrintWords Go.Proofs.YthghflgmeepnlaaW.PrintLast Go.Proofs.YthghflgmeepnlaaW.PrintMore
set_option linter.unusedVariables false
set_option linter.unusedSimpArgs false
end Go.Proofs.Ythghflgmeepnlaa.Pa
end
section
namespace Go.Proofs.Ythghflgmeepnlaa.Pa
open Go.RowKit Go.Proofs.YthghflgmeepnlaaW.PrintWords Go.Proofs.YthghflgmeepnlaaW.PrintLast Go.Proofs.YthghflgmeepnlaaW.PrintMore
set_option linter.unusedVariables false
set_option linter.unusedSimpArgs false
/-- The bytes that tell a row apart. -/
def bytesOfRow (l : List S33) : ByteArray := (encode l).1
set_option maxHeartbeats 4000000 in
set_option maxRecDepth 100000 in
theorem rows_bytes_calls (A : Option Addr) (c : Nat) (l : List S33) (w : World) (hr : Kd.C k33 w A l.length l) (hc : l.length ≤ c) (hl : l.length ≤ 9223372036854775807) :
    Calls Try.prog 98 #[.slice A l.length c] w fun e w' => e = .returned (.string (bytesOfRow l)) ∧ Below w.heap.size w w' := by
  have E := Aside0.mk (code_Encode.calls (0 + 2 * l.length + 1020) A c l (encode l).1 (encode l).2 w hr hc (encode_is 0 l hl))
  have HB := Aside0.mk (Below.refl w.heap.size w)
  clear hr hc
  go_enter Try.func98, Try.ntmps98
  go_wp2_with fail
  refine E.out.mono ?_
  rintro e w1 ⟨rfl, hb⟩
  have HB1 := Aside0.mk hb
  clear hb
  go_wp2_with fail
  go_ret
  exact ⟨rfl, HB1.out⟩
end Go.Proofs.Ythghflgmeepnlaa.Pa
end
section
namespace Go.Proofs.Ythghflgmeepnlaa.Pa
open Go.RowKit Go.Proofs.YthghflgmeepnlaaW.PrintWords Go.Proofs.YthghflgmeepnlaaW.PrintLast Go.Proofs.YthghflgmeepnlaaW.PrintMore
open Go.Maps
set_option linter.unusedVariables false
set_option linter.unusedSimpArgs false
theorem law9 : Keyed Try.prog 9 := string_keyed Try.underlying9
theorem zero3m (w : World) : (zeroValue 3).run Try.prog w = .ok (.int .i64 0) w := by kernel_rfl
theorem wrapM {x : Int} (h0 : 0 ≤ x) (h1 : x < 9223372036854775808) : wrap64 x = x := by unfold wrap64; omega
/-- A text as a key. -/
abbrev ky (s : ByteArray) : List UInt8 := s.data.toList
/-- A map of how often each text has been met. -/
structure Seen (w : World) (g n : Nat) (seen : List (List UInt8)) : Prop where
  mk ::
  own : ∃ D : DataW Unit, w.ownsMap Try.prog 9 (plainElem Try.prog 3) g n D ∧ IsMap D ∧ ∀ s : List UInt8, D.atKey (.string s) (.lit (.int .i64 0)) = .lit (.int .i64 (seen.count s : Nat))
theorem Seen.start (w : World) : Seen (w.alloc (.map #[] 0)) w.heap.size 0 [] := ⟨.map [], World.ownsMap_made _ _ _ _, isMap_empty, fun s => by rfl⟩
theorem grown_of_below {w w1 : World} (h : Below w.heap.size w w1) : w.grownBy w1 none := ⟨h.os, h.tape, h.output, h.size, fun k hk _ => h.block k hk⟩
theorem Seen.grown {w w1 : World} {g n : Nat} {l : List (List UInt8)} (h : Seen w g n l) {row : Option Nat} (hg : w.grownBy w1 row) (hne : some g ≠ row) : Seen w1 g n l := by
  obtain ⟨D, h1, h2, h3⟩ := h.own
  exact ⟨D, h1.kept hg hne, h2, h3⟩
theorem Seen.below {w w1 : World} {g n : Nat} {l : List (List UInt8)} (h : Seen w g n l) (hb : Below w.heap.size w w1) : Seen w1 g n l := h.grown (grown_of_below hb) (by simp)
theorem Seen.lt {w : World} {g n : Nat} {l : List (List UInt8)} (h : Seen w g n l) : g < w.heap.size := by
  obtain ⟨D, h1, _, _⟩ := h.own
  exact h1.lt
/-- One more. -/
theorem put_count {D : DataW Unit} (hD : IsMap D) {seen : List (List UInt8)} {s : List UInt8} (h : ∀ t : List UInt8, D.atKey (.string t) (.lit (.int .i64 0)) = .lit (.int .i64 (seen.count t : Nat))) {v : Int} (hv : v = ((s :: seen).count s : Nat)) :
    IsMap (D.put (.string s) (.lit (.int .i64 v))) ∧ ∀ t : List UInt8, (D.put (.string s) (.lit (.int .i64 v))).atKey (.string t) (.lit (.int .i64 0)) = .lit (.int .i64 ((s :: seen).count t : Nat)) := by
  refine ⟨hD.put _ _, fun t => ?_⟩
  by_cases hst : t = s
  · subst hst
    rw [atKey_put_same hD (by simp [WideAt.IsKeyLit]), hv]
  · rw [atKey_put_other (fun he => hst (by injection he)), h t, List.count_cons_of_ne (fun he => hst he.symm)]
/-- What keep is. -/
def keepL (may : ByteArray → Bool) : List (List UInt8) → List (List S33) → List (List S33)
  | _, [] => []
  | seen, r :: rs => if seen.count (ky (bytesOfRow r)) = 0 ∧ may (bytesOfRow r) = true then r :: keepL may (ky (bytesOfRow r) :: seen) rs else keepL may (ky (bytesOfRow r) :: seen) rs
theorem drop_rdL {l : List (List S33)} {i : Int} (h0 : 0 ≤ i) (h1 : i < (l.length : Int)) : l.drop i.toNat = rd_L4 l i :: l.drop (i + 1).toNat := by
  have hlt : i.toNat < l.length := by omega
  rw [List.drop_eq_getElem_cons hlt, show (i + 1).toNat = i.toNat + 1 by omega]
  congr 1
  unfold rd_L4
  rw [List.getD_eq_getElem?_getD, List.getElem?_eq_getElem hlt]
  rfl
theorem N_base {α : Type} {d : Kd α} {e base : Nat} {ok : Nat → Prop} {w : World} {v : Value} {xs : List α} (h : Kd.N d e w base ok v xs) : ∀ k, v.ownBlock = some k → base ≤ k := by
  obtain ⟨_, rows, hl, hR, _⟩ := h
  obtain ⟨inner, ho⟩ := Kd.R_own hR
  exact fun k hk => own_base ho k hk
set_option maxHeartbeats 8000000 in
set_option maxRecDepth 100000 in
theorem keep_calls (fk : Nat) (caps : Array Value) (may : ByteArray → Bool) (P0_ : Nat → Prop) (A0 : Option Addr) (c0 : Nat) (l0 : List (List (S33))) (w : World) (hs0 : Kd.V (Kd.slice 33 k33) 22 w w.heap.size (fun k_ => P0_ k_) (.slice A0 l0.length c0) l0)
    (hl : l0.length < 4000000000000) (hrow : ∀ r ∈ l0, r.length ≤ 9223372036854775807) (hmax : ∀ r ∈ l0, (bytesOfRow r).size ≤ maxLen)
    (hcf : ∀ (s : ByteArray) (W : World), Sem.run Try.prog (callFunc fk (#[Value.string s] ++ caps)) W = Result.ok (Next.enter fk (#[Value.string s] ++ caps)) W)
    (hmay : ∀ (W : World) (s : ByteArray), s.size ≤ maxLen → Below w.heap.size w W → Calls Try.prog fk (#[.string s] ++ caps) W fun e w' => e = .returned (.bool (may s)) ∧ Below W.heap.size W w') :
    Calls Try.prog 99 #[.slice A0 l0.length c0, .func (.func fk) #[] caps] w fun e w' => ∃ v0_ : Value, e = .returned (v0_) ∧ Kd.N (Kd.slice 33 k33) 22 w' w.heap.size (fun k_ => (P0_ k_ ∨ w.heap.size ≤ k_)) v0_ (keepL may [] l0) ∧ Below w.heap.size w w' := by
  have hmm := @run_makeMap Try.prog
  have HO0 := Aside0.mk (Kd.V_bound hs0)
  have HB := Aside0.mk (Below.refl w.heap.size w)
  have HM := Aside0.mk hmay
  have HR := Aside0.mk hrow
  have HX := Aside0.mk hmax
  have HL := Aside0.mk hl
  clear hmay hrow hl hmax hs0
  go_enter Try.func99, Try.ntmps99
  go_wp2
  go_loopg [6, 13] l0.length (fun kq v6 v13 w' => ∃ (x6 : List (List S33)) (x13 : Int) (seen : List (List UInt8)), v13 = .int .i64 x13 ∧ Aside0 (0 ≤ x13 ∧ x13 + kq = l0.length) ∧ Aside0 (x6.length ≤ x13.toNat) ∧ Aside0 (x6 ++ keepL may seen (l0.drop x13.toNat) = keepL may [] l0) ∧ Aside0 (seen.length = x13.toNat) ∧ Aside0 (Seen w' w.heap.size x13.toNat seen) ∧ Aside0 (Kd.V (Kd.slice 33 k33) 22 w' w.heap.size (fun k_ => P0_ k_ ∧ k_ < w.heap.size) (.slice A0 l0.length c0) l0) ∧ Aside0 (Kd.N (Kd.slice 33 k33) 22 w' w.heap.size (fun k_ => (P0_ k_ ∧ k_ < w.heap.size) ∨ w.heap.size < k_) v6 x6) ∧ Aside0 (Below w.heap.size w w'))
  case atStart => exact ⟨[], 0, [], rfl, ⟨by simp⟩, ⟨by simp⟩, ⟨by simp⟩, ⟨rfl⟩, ⟨Seen.start w⟩, ⟨Kd.V_alloc HO0.out _⟩, ⟨Kd.N_nil _ _ _ _ _⟩, ⟨below_alloc HB.out _⟩⟩
  case round =>
    clear HB HO0
    obtain ⟨x6, x13, seen, rfl, HI, HZ, HA, HS, HD, HV, HN, HB⟩ := hrel
    by_cases c2 : x13 < (l0.length : Int)
    · have c2b : decide (x13 < (l0.length : Int)) = true := decide_eq_true c2
      have p0 : 0 ≤ x13 := HI.out.1
      have c2c : decide (0 ≤ x13) = true := decide_eq_true p0
      obtain ⟨k1, rfl⟩ : ∃ k1, gk = k1 + 1 := ⟨gk - 1, by have := HI.out.2; omega⟩
      obtain ⟨ad, A1, c1, e1, hx1, hl1, hi1⟩ := at_L4 (Kd.V_reads' HV.out).2.2 x13 p0 c2
      cases e1
      obtain ⟨ce, hce, hMe, hcc⟩ := Kd.V_get HV.out [] x13 p0 c2
      obtain ⟨ua, uc, rfl, ul, ge⟩ := Kd.FK_slice_open hMe
      have hv := hcc 0 _ rfl
      rw [Nat.add_zero, show ((Kd.slice 33 k33)).sz = 1 from rfl, Nat.mul_one] at hv
      replace hv := Option.some.inj (hv.symm.trans hx1)
      injection hv with hva_ hvn_ hvc_
      rw [hva_] at ge
      rw [hvc_] at ul
      have HF := Aside0.mk (show Kd.V k33 33 _ w.heap.size _ _ (rd_L4 l0 x13) from Kd.V_mk ul ge)
      clear hva_ hvn_ hvc_ ge ul hcc hce hMe
      have HR1 := Aside0.mk hi1
      have HC1 := Aside0.mk hl1
      clear hi1 hl1
      obtain ⟨Ao, co, eo⟩ := Kd.N_slice HN.out
      subst eo
      have p1 := eq_true p0
      have q1 := eq_true c2
      have hmem : rd_L4 l0 x13 ∈ l0 := by
        have hlt : x13.toNat < l0.length := by omega
        unfold rd_L4
        rw [List.getD_eq_getElem?_getD, List.getElem?_eq_getElem hlt]
        exact List.getElem_mem hlt
      have hrl := HR.out _ hmem
      have hkey : keyOf Try.prog 9 (.string (bytesOfRow (rd_L4 l0 x13))) = some (.string (ky (bytesOfRow (rd_L4 l0 x13)))) := WideMaps.keyOf_string_mk Try.underlying9 (HX.out _ hmem)
      have hcl : (seen.count (ky (bytesOfRow (rd_L4 l0 x13)))) ≤ seen.length := List.count_le_length
      have hnl := HL.out
      have hds := HS.out
      have HK := Aside0.mk (show x13.toNat < maxLen by unfold maxLen; omega)
      have E14 := Aside0.mk (show wrap64 (x13 + 1) = x13 + 1 from wrapM (by omega) (by omega))
      have HI' := Aside0.mk (show 0 ≤ x13 + 1 ∧ x13 + 1 + (k1 : Int) = l0.length by have := HI.out.2; omega)
      have HS' := Aside0.mk (show (ky (bytesOfRow (rd_L4 l0 x13)) :: seen).length = (x13 + 1).toNat by rw [List.length_cons, hds]; omega)
      have E15 := Aside0.mk (show (x13 + 1).toNat = x13.toNat + 1 by omega)
      have LM := Aside0.mk (show x6.length < 4000000000000 by have := HZ.out; omega)
      have hA := HA.out
      rw [drop_rdL p0 c2, keepL] at hA
      have HA := Aside0.mk hA
      clear hA
      go_wp2_with fail
      refine (rows_bytes_calls _ _ (rd_L4 l0 x13) _ HR1.out HC1.out hrl).mono ?_
      rintro e w1 ⟨rfl, hb⟩
      obtain ⟨D, hown, hIs, hcnt⟩ := (HD.out.below hb).own
      have HV1 := Aside0.mk (Kd.V_below HV.out hb)
      have HN1 := Aside0.mk (Kd.N_below HN.out hb)
      have HF1 := Aside0.mk (Kd.V_below HF.out hb)
      have HB1 := Aside0.mk (below_step HB.out hb)
      clear hb HV HN HF HB HD
      by_cases c3 : seen.count (ky (bytesOfRow (rd_L4 l0 x13))) = 0
      · have hC1 : (1 : Int) = ((ky (bytesOfRow (rd_L4 l0 x13)) :: seen).count (ky (bytesOfRow (rd_L4 l0 x13))) : Nat) := by
          rw [List.count_cons_self]; omega
        have HPC := Aside0.mk (put_count hIs hcnt hC1)
        have HC0 := Aside0.mk (hcnt (ky (bytesOfRow (rd_L4 l0 x13))))
        rw [c3] at HC0
        have C3 := Aside0.mk c3
        clear c3 hC1 hnl hds hcl hIs hcnt
        go_wp2_with (first
          | (at_lookup; refine wpList_lookup_own_int _ rfl _ _ 103 rfl 9 3 .i64 law9 Try.underlying103 Try.underlying3 (zero3m _) w.heap.size _ _ rfl hown1 _ _ rfl hkey ?_; intro c1 hat1 hwc1; (have e1 : c1 = 1 := by (have h1 := hat1.symm.trans (HPC.out.2 _); injection h1 with h1; injection h1 with _ h1; rw [h1, List.count_cons_self, C3.out]; rfl)); subst e1; clear hat1 hwc1)
          | (at_lookup; refine wpList_lookup_own_int _ rfl _ _ 103 rfl 9 3 .i64 law9 Try.underlying103 Try.underlying3 (zero3m _) w.heap.size _ _ rfl hown _ _ rfl hkey ?_; intro c hat hwc; (have e1 : c = 0 := by (have h1 := hat.symm.trans HC0.out; injection h1 with h1; injection h1)); subst e1; clear hat hwc)
          | (at_mapUpdate; refine wpList_mapUpdate_own _ rfl _ _ _ 103 rfl 9 3 law9 Try.underlying103 _ w.heap.size _ _ rfl hown HK.out _ _ _ rfl rfl hkey _ [] (plainElem_int Try.underlying3 (by decide)) ?_; intro w2 hown1 hg1))
        have HD2 := Aside0.mk (Seen.mk ⟨_, hown1, HPC.out.1, HPC.out.2⟩)
        have HV2 := Aside0.mk (Kd.V_grown HV1.out hg1 (fun k hk he => by injection he with he; have := hk.2; omega))
        have HF2 := Aside0.mk (Kd.V_grown HF1.out hg1 (fun k hk he => by injection he with he; have := hk.2; omega))
        have HN2 := Aside0.mk (Kd.N_grown HN1.out hg1 (fun k hk he => by injection he with he; rcases hk with hk | hk <;> omega))
        have HB2 := Aside0.mk (pw_below_grown HB1.out _ (below_size HB1.out) hg1 (fun k hk => by injection hk with hk; omega))
        clear HV1 HF1 HN1 HB1 hg1 hown1 hown
        refine (HM.out _ _ (HX.out _ hmem) HB2.out).mono ?_
        rintro e w3 ⟨rfl, hb⟩
        have HD3 := Aside0.mk (HD2.out.below hb)
        have HV3 := Aside0.mk (Kd.V_below HV2.out hb)
        have HF3 := Aside0.mk (Kd.V_below HF2.out hb)
        have HN3 := Aside0.mk (Kd.N_below HN2.out hb)
        have HB3 := Aside0.mk (below_step HB2.out hb)
        clear hb HV2 HN2 HF2 HB2 HD2
        by_cases c4 : may (bytesOfRow (rd_L4 l0 x13)) = true
        · have hA := HA.out
          rw [if_pos ⟨C3.out, c4⟩] at hA
          go_wp2_with ((with_reducible refine gate_builtin (b := .append) (xs := #[.tmp 32, .tmp 34]) rfl ?_); at_builtin; refine Kd.N_append (Kd.slice 33 k33) (w0 := w) w.heap.size rfl (.tmp 32) (.tmp 34) 58 22 (.slice none 0 0) 24 rfl Try.underlying58 info22 rfl (by decide) (by omega) (.slice Ao x6.length co) x6 (rd_L4 l0 x13) [.slice A1 (rd_L4 l0 x13).length c1] (fun k_ => (P0_ k_ ∧ k_ < w.heap.size) ∨ w.heap.size < k_) (fun k_ => P0_ k_ ∧ k_ < w.heap.size) rfl rfl ?aP ?aK ?aF ?aO ?aB ?aS ?aL ?_; (case aP => exact (Kd.FK_slice_mk (Kd.V_reads' HF3.out).2.1 (Kd.V_F HF3.out))); (case aK => exact (fun k hk => ⟨.inl hk, fun he => by have h1 := N_base HN3.out k he.symm; have h2 := hk.2; omega⟩)); (case aB => exact HB3.out); (case aF => exact (fun k hk => .inr (Nat.lt_of_lt_of_le HD3.out.lt hk))); (case aO => exact HN3.out); (case aS => exact below_size HB3.out); (case aL => have := LM.out; omega); intro v9 w9 ho hb hg hat; have HN9 := Aside0.mk ho; have HB9 := Aside0.mk hb; have HV9 := Aside0.mk (Kd.V_grown HV3.out hg (fun k hk he => by have h1 := N_base HN3.out k he.symm; have h2 := hk.2; omega)); have HD9 := Aside0.mk (HD3.out.grown hg (fun he => by have h1 := HN3.out.1 _ he.symm; rcases h1 with h1 | h1 <;> omega)); clear ho hb hg hat HN3 HB3 HV3 HF3 HD3)
          go_roundg k1
          case measure => omega
          case rel => exact ⟨x6 ++ [rd_L4 l0 x13], x13 + 1, _, by rw [E14.out], HI', ⟨by rw [List.length_append, E15.out]; have := HZ.out; simp only [List.length_cons, List.length_nil]; omega⟩, ⟨by rw [List.append_assoc]; exact hA⟩, HS', ⟨by rw [E15.out]; exact HD9.out⟩, HV9, HN9, HB9⟩
        · have hA := HA.out
          rw [if_neg (fun h => c4 h.2)] at hA
          replace c4 : may (bytesOfRow (rd_L4 l0 x13)) = false := Bool.eq_false_iff.mpr c4
          rw [c4]
          go_wp2_with fail
          go_roundg k1
          case measure => omega
          case rel => exact ⟨x6, x13 + 1, _, by rw [E14.out], HI', ⟨by rw [E15.out]; have := HZ.out; omega⟩, ⟨hA⟩, HS', ⟨by rw [E15.out]; exact HD3.out⟩, HV3, HN3, HB3⟩
      · have HCN := Aside0.mk (⟨hcnt, hIs⟩ : (∀ s : List UInt8, D.atKey (.string s) (.lit (.int .i64 0)) = .lit (.int .i64 (seen.count s : Nat))) ∧ IsMap D)
        have C3 := Aside0.mk (⟨c3, hcl, hds, hnl, c2⟩ : seen.count (ky (bytesOfRow (rd_L4 l0 x13))) ≠ 0 ∧ seen.count (ky (bytesOfRow (rd_L4 l0 x13))) ≤ seen.length ∧ seen.length = x13.toNat ∧ l0.length < 4000000000000 ∧ x13 < (l0.length : Int))
        have hA := HA.out
        rw [if_neg (fun h => c3 h.1)] at hA
        have HA' := Aside0.mk hA
        clear hA c3 hnl hds hcl hIs hcnt
        go_wp2_with (first
          | (at_lookup; refine wpList_lookup_own_int _ rfl _ _ 103 rfl 9 3 .i64 law9 Try.underlying103 Try.underlying3 (zero3m _) w.heap.size _ _ rfl hown1 _ _ rfl hkey ?_; intro c1 hat1 hwc1; (have e1 : c1 = wrap64 (c + 1) := by (have h1 := hat1.symm.trans ((put_count HCN.out.2 HCN.out.1 HC1x.out).2 _); injection h1 with h1; injection h1 with _ h1; exact h1.trans HC1x.out.symm)); subst e1; clear hat1 hwc1)
          | (at_lookup; refine wpList_lookup_own_int _ rfl _ _ 103 rfl 9 3 .i64 law9 Try.underlying103 Try.underlying3 (zero3m _) w.heap.size _ _ rfl hown _ _ rfl hkey ?_; intro c hat hwc; (have hC1 : wrap64 (c + 1) = ((ky (bytesOfRow (rd_L4 l0 x13)) :: seen).count (ky (bytesOfRow (rd_L4 l0 x13))) : Nat) := by (have h1 := hat.symm.trans (HCN.out.1 _); injection h1 with h1; injection h1 with _ h1; have h2 := C3.out; rw [List.count_cons_self, wrapM (by omega) (by omega)]; omega)); (have c3b : (wrap64 (c + 1) == 1) = false := beq_eq_false_iff_ne.mpr (by (rw [hC1, List.count_cons_self]; have h2 := C3.out; omega))); have HC1x := Aside0.mk hC1; clear hat hwc hC1)
          | (at_mapUpdate; refine wpList_mapUpdate_own _ rfl _ _ _ 103 rfl 9 3 law9 Try.underlying103 _ w.heap.size _ _ rfl hown HK.out _ _ _ rfl rfl hkey _ [] (plainElem_int Try.underlying3 (wrap64_wf _)) ?_; intro w2 hown1 hg1))
        have HPC := put_count HCN.out.2 HCN.out.1 HC1x.out
        have HD2 := Aside0.mk (Seen.mk ⟨_, hown1, HPC.1, HPC.2⟩)
        have HV2 := Aside0.mk (Kd.V_grown HV1.out hg1 (fun k hk he => by injection he with he; have := hk.2; omega))
        have HN2 := Aside0.mk (Kd.N_grown HN1.out hg1 (fun k hk he => by injection he with he; rcases hk with hk | hk <;> omega))
        have HB2 := Aside0.mk (pw_below_grown HB1.out _ (below_size HB1.out) hg1 (fun k hk => by injection hk with hk; omega))
        go_roundg k1
        case measure => omega
        case rel => exact ⟨x6, x13 + 1, _, by rw [E14.out], HI', ⟨by rw [E15.out]; have := HZ.out; omega⟩, HA', HS', ⟨by rw [E15.out]; exact HD2.out⟩, HV2, HN2, HB2⟩
    · have c2b : decide (x13 < (l0.length : Int)) = false := decide_eq_false c2
      have e13 : x13.toNat = l0.length := by have := HI.out; omega
      have hA := HA.out
      rw [e13, List.drop_length] at hA
      simp only [keepL, List.append_nil] at hA
      subst hA
      go_wp2_with fail
      go_ret
      exact ⟨_, rfl, Kd.N_mono HN.out (fun k hk => hk.imp (fun h => h.1) (fun h => Nat.le_of_lt h)), HB.out⟩
end Go.Proofs.Ythghflgmeepnlaa.Pa
end
section
namespace Go.Proofs.Ythghflgmeepnlaa.Pa
open Go.RowKit Go.Proofs.YthghflgmeepnlaaW.PrintWords Go.Proofs.YthghflgmeepnlaaW.PrintLast Go.Proofs.YthghflgmeepnlaaW.PrintMore
open Go.Maps
set_option linter.unusedVariables false
set_option linter.unusedSimpArgs false
theorem enter_of {f : FuncId} {fn : Func} (hf : Try.prog.funcs[f]? = some fn) (hname : (fn.name == "runtime.NumGoroutine") = false) (hb : fn.body.isNone = false) (args : Array Value) (W : World) :
    Sem.run Try.prog (callFunc f args) W = Result.ok (Next.enter f args) W := by
  have h1 : ¬ fn.name = "runtime.NumGoroutine" := by simpa using hname
  have h2 : ¬ fn.body = none := by intro h; simp [h] at hb
  unfold callFunc
  simp [go_sem, hf]
  rw [if_neg h1, if_neg h2]
set_option maxHeartbeats 4000000 in
set_option maxRecDepth 100000 in
theorem true_calls (s : ByteArray) (w : World) : Calls Try.prog 100 (#[.string s] ++ #[]) w fun e w' => e = .returned (.bool true) ∧ Below w.heap.size w w' := by
  have HB := Aside0.mk (Below.refl w.heap.size w)
  go_enter Try.func100, Try.ntmps100
  go_wp2
  go_ret
  exact ⟨rfl, HB.out⟩
/-- Each row once. -/
def distinctL (l : List (List S33)) : List (List S33) := keepL (fun _ => true) [] l
set_option maxHeartbeats 4000000 in
set_option maxRecDepth 100000 in
theorem rows_Distinct_calls (P0_ : Nat → Prop) (A0 : Option Addr) (c0 : Nat) (l0 : List (List (S33))) (w : World) (hs0 : Kd.V (Kd.slice 33 k33) 22 w w.heap.size (fun k_ => P0_ k_) (.slice A0 l0.length c0) l0)
    (hl : l0.length < 4000000000000) (hrow : ∀ r ∈ l0, r.length ≤ 9223372036854775807) (hmax : ∀ r ∈ l0, (bytesOfRow r).size ≤ maxLen) :
    Calls Try.prog 61 #[.slice A0 l0.length c0] w fun e w' => ∃ v0_ : Value, e = .returned (v0_) ∧ Kd.N (Kd.slice 33 k33) 22 w' w.heap.size (fun k_ => (P0_ k_ ∨ w.heap.size ≤ k_)) v0_ (distinctL l0) ∧ Below w.heap.size w w' := by
  have HK := Aside0.mk (keep_calls 100 #[] (fun _ => true) P0_ A0 c0 l0 w hs0 hl hrow hmax (fun s W => enter_of Try.func100 (by kernel_rfl) (by kernel_rfl) _ W) (fun W s _ _ => true_calls s W))
  clear hs0 hl hrow hmax
  go_enter Try.func61, Try.ntmps61
  go_wp2_with fail
  refine HK.out.mono ?_
  rintro e w1 ⟨v0, rfl, hn, hb⟩
  have HN := Aside0.mk hn
  have HB := Aside0.mk hb
  clear hn hb
  obtain ⟨Ao, co, eo⟩ := Kd.N_slice HN.out
  subst eo
  go_wp2
  go_ret
  exact ⟨_, rfl, HN.out, HB.out⟩
end Go.Proofs.Ythghflgmeepnlaa.Pa
end
section
namespace Go.Proofs.Ythghflgmeepnlaa.Pa
open Go.RowKit Go.Proofs.YthghflgmeepnlaaW.PrintWords Go.Proofs.YthghflgmeepnlaaW.PrintLast Go.Proofs.YthghflgmeepnlaaW.PrintMore
open Go.Maps
set_option linter.unusedVariables false
set_option linter.unusedSimpArgs false
theorem inf23 : (Try.prog.info? 23).map (fun i => (i.zero, i.size, i.bytes)) = some (some (.slice none 0 0), 1, 24) := by kernel_rfl
theorem inf3 : (Try.prog.info? 3).map (fun i => (i.zero, i.size, i.bytes)) = some (some (.int .i64 0), 1, 8) := by kernel_rfl
/-- A map of where each text stands first. -/
structure AtM (w : World) (g n : Nat) (ks : List (List UInt8)) : Prop where
  mk ::
  own : ∃ D : DataW Unit, w.ownsMap Try.prog 9 (plainElem Try.prog 3) g n D ∧ IsMap D ∧ (∀ s : List UInt8, D.atKey (.string s) (.lit (.int .i64 0)) = .lit (.int .i64 ((if s ∈ ks then ks.idxOf s else 0) : Nat))) ∧ ∀ s : List UInt8, Maps.has D (.string s) = decide (s ∈ ks)
theorem AtM.start (w : World) : AtM (w.alloc (.map #[] 0)) w.heap.size 0 [] := ⟨.map [], World.ownsMap_made _ _ _ _, isMap_empty, fun s => by rfl, fun s => by rfl⟩
theorem AtM.grown {w w1 : World} {g n : Nat} {l : List (List UInt8)} (h : AtM w g n l) {row : Option Nat} (hg : w.grownBy w1 row) (hne : some g ≠ row) : AtM w1 g n l := by
  obtain ⟨D, h1, h2, h3⟩ := h.own
  exact ⟨D, h1.kept hg hne, h2, h3⟩
theorem AtM.below {w w1 : World} {g n : Nat} {l : List (List UInt8)} (h : AtM w g n l) (hb : Below w.heap.size w w1) : AtM w1 g n l := h.grown (grown_of_below hb) (by simp)
theorem AtM.lt {w : World} {g n : Nat} {l : List (List UInt8)} (h : AtM w g n l) : g < w.heap.size := by
  obtain ⟨D, h1, _, _⟩ := h.own
  exact h1.lt
theorem AtM.more {w : World} {g n : Nat} {l : List (List UInt8)} (h : AtM w g n l) : AtM w g (n + 1) l := by
  obtain ⟨D, h1, h2, h3⟩ := h.own
  exact ⟨D, h1.mono (Nat.le_succ n), h2, h3⟩
theorem put_at {D : DataW Unit} (hD : IsMap D) {ks : List (List UInt8)} {s : List UInt8} (h : ∀ t : List UInt8, D.atKey (.string t) (.lit (.int .i64 0)) = .lit (.int .i64 ((if t ∈ ks then ks.idxOf t else 0) : Nat))) (hh : ∀ t : List UInt8, Maps.has D (.string t) = decide (t ∈ ks)) (hs : s ∉ ks) :
    IsMap (D.put (.string s) (.lit (.int .i64 ks.length))) ∧ (∀ t : List UInt8, (D.put (.string s) (.lit (.int .i64 ks.length))).atKey (.string t) (.lit (.int .i64 0)) = .lit (.int .i64 ((if t ∈ ks ++ [s] then (ks ++ [s]).idxOf t else 0) : Nat))) ∧ ∀ t : List UInt8, Maps.has (D.put (.string s) (.lit (.int .i64 ks.length))) (.string t) = decide (t ∈ ks ++ [s]) := by
  refine ⟨hD.put _ _, fun t => ?_, fun t => ?_⟩
  · by_cases hst : t = s
    · subst hst
      rw [atKey_put_same hD (by simp [WideAt.IsKeyLit]), if_pos (by simp), List.idxOf_append, if_neg hs]
      simp
    · rw [atKey_put_other (fun he => hst (by injection he)), h t]
      by_cases ht : t ∈ ks
      · rw [if_pos ht, if_pos (by simp [ht]), List.idxOf_append, if_pos ht]
      · rw [if_neg ht, if_neg (by simp [ht, hst])]
  · by_cases hst : t = s
    · subst hst
      rw [has_put_same hD (by simp [WideAt.IsKeyLit])]
      simp
    · rw [has_put_other (fun he => hst (by injection he)), hh t]
      simp [hst]
/-- One more row's key: the keys met, each once, and the places of each. -/
def grpStep (st : List (List UInt8) × List (List Int)) (k : List UInt8) (i : Nat) : List (List UInt8) × List (List Int) :=
  if k ∈ st.1 then (st.1, st.2.set (st.1.idxOf k) (st.2.getD (st.1.idxOf k) [] ++ [(i : Int)])) else (st.1 ++ [k], st.2 ++ [[(i : Int)]])
def grpGo : Nat → List (List UInt8) × List (List Int) → List (List UInt8) → List (List UInt8) × List (List Int)
  | _, st, [] => st
  | i, st, k :: ks => grpGo (i + 1) (grpStep st k i) ks
/-- The keys of rows. -/
def keysOf (l : List (List S33)) : List (List UInt8) := l.map (fun r => ky (bytesOfRow r))
def groupsL (l : List (List S33)) : List (List Int) := (grpGo 0 ([], []) (keysOf l)).2
theorem drop_keys {l : List (List S33)} {i : Nat} (h1 : i < l.length) : (keysOf l).drop i = ky (bytesOfRow (rd_L4 l (i : Int))) :: (keysOf l).drop (i + 1) := by
  have hlt : i < (keysOf l).length := by unfold keysOf; rw [List.length_map]; exact h1
  rw [List.drop_eq_getElem_cons hlt]
  have e : (keysOf l)[i] = ky (bytesOfRow (rd_L4 l (i : Int))) := by
    have e1 : rd_L4 l (i : Int) = l[i] := by
      unfold rd_L4
      rw [Int.toNat_natCast, List.getD_eq_getElem?_getD, List.getElem?_eq_getElem h1]
      rfl
    rw [e1]
    simp [keysOf]
  rw [e]
set_option maxHeartbeats 8000000 in
set_option maxRecDepth 100000 in
theorem Groups_calls (P0_ : Nat → Prop) (A0 : Option Addr) (c0 : Nat) (l0 : List (List (S33))) (w : World) (hs0 : Kd.V (Kd.slice 33 k33) 22 w w.heap.size (fun k_ => P0_ k_) (.slice A0 l0.length c0) l0)
    (hl : l0.length < 1000000000) (hrow : ∀ r ∈ l0, r.length ≤ 9223372036854775807) (hmax : ∀ r ∈ l0, (bytesOfRow r).size ≤ maxLen) :
    Calls Try.prog 60 #[.slice A0 l0.length c0] w fun e w' => ∃ v0_ : Value, e = .returned (v0_) ∧ Kd.S (Kd.slice 3 (Kd.int .i64)) 23 w' w.heap.size (fun k_ => w.heap.size < k_) v0_ (groupsL l0) ∧ Below w.heap.size w w' := by
  have hmm := @run_makeMap Try.prog
  have HO0 := Aside0.mk (Kd.V_bound hs0)
  have HB := Aside0.mk (Below.refl w.heap.size w)
  have HR := Aside0.mk hrow
  have HX := Aside0.mk hmax
  have HL := Aside0.mk hl
  clear hrow hl hmax hs0
  go_enter Try.func60, Try.ntmps60
  go_wp2
  go_loopg [4, 13] l0.length (fun kq v4 v13 w' => ∃ (i : Nat) (ks : List (List UInt8)) (gs : List (List Int)), v13 = .int .i64 (i : Int) ∧ Aside0 (i + kq = l0.length) ∧ Aside0 (ks.length = gs.length ∧ gs.length ≤ i) ∧ Aside0 (∀ g ∈ gs, g.length ≤ i) ∧ Aside0 (grpGo i (ks, gs) ((keysOf l0).drop i) = grpGo 0 ([], []) (keysOf l0)) ∧ Aside0 (AtM w' w.heap.size i ks) ∧ Aside0 (Kd.V (Kd.slice 33 k33) 22 w' w.heap.size (fun k_ => P0_ k_ ∧ k_ < w.heap.size) (.slice A0 l0.length c0) l0) ∧ Aside0 (Kd.S (Kd.slice 3 (Kd.int .i64)) 23 w' w.heap.size (fun k_ => w.heap.size < k_) v4 gs) ∧ Aside0 (Below w.heap.size w w'))
  case atStart => exact ⟨0, [], [], rfl, ⟨by simp⟩, ⟨by simp⟩, ⟨by simp⟩, ⟨rfl⟩, ⟨AtM.start w⟩, ⟨Kd.V_alloc HO0.out _⟩, ⟨Kd.S_nil _ _ _ _ _⟩, ⟨below_alloc HB.out _⟩⟩
  case round =>
    clear HB HO0
    obtain ⟨i, ks, gs, rfl, HI, HZ, HG, HA, HD, HV, HS, HB⟩ := hrel
    by_cases c2 : (i : Int) < (l0.length : Int)
    · have c2b : decide ((i : Int) < (l0.length : Int)) = true := decide_eq_true c2
      have p0 : (0 : Int) ≤ i := by omega
      obtain ⟨k1, rfl⟩ : ∃ k1, gk = k1 + 1 := ⟨gk - 1, by have := HI.out; omega⟩
      obtain ⟨ad, A1, c1, e1, hx1, hl1, hi1⟩ := at_L4 (Kd.V_reads' HV.out).2.2 (i : Int) p0 c2
      cases e1
      simp only [Int.toNat_natCast] at hx1
      have HR1 := Aside0.mk hi1
      have HC1 := Aside0.mk hl1
      clear hi1 hl1
      obtain ⟨Ao, co, eo⟩ := Kd.S_slice HS.out
      subst eo
      have p1 := eq_true p0
      have q1 := eq_true c2
      have hmem : rd_L4 l0 (i : Int) ∈ l0 := by
        unfold rd_L4
        rw [Int.toNat_natCast, List.getD_eq_getElem?_getD, List.getElem?_eq_getElem (by omega)]
        exact List.getElem_mem (by omega)
      have hrl := HR.out _ hmem
      obtain ⟨s, hs⟩ : ∃ s, s = bytesOfRow (rd_L4 l0 (i : Int)) := ⟨_, rfl⟩
      have hkey : keyOf Try.prog 9 (.string s) = some (.string (ky s)) := WideMaps.keyOf_string_mk Try.underlying9 (by rw [hs]; exact HX.out _ hmem)
      have hnl := HL.out
      have hA := HA.out
      rw [drop_keys (by omega), grpGo, ← hs] at hA
      have HA' := Aside0.mk hA
      have HBC := Aside0.mk (rows_bytes_calls A1 c1 (rd_L4 l0 (i : Int)) wr HR1.out HC1.out hrl)
      rw [← hs] at HBC
      have HK := Aside0.mk (show i < maxLen by unfold maxLen; omega)
      have HW := Aside0.mk (show wrap64 ((i : Int) + 1) = ((i + 1 : Nat) : Int) by unfold wrap64; omega)
      have HI' := Aside0.mk (show i + 1 + k1 = l0.length by have := HI.out; omega)
      have HN := Aside0.mk hnl
      clear hs hA hmem hrl hnl HA
      go_wp2_with fail
      refine HBC.out.mono ?_
      rintro e w1 ⟨rfl, hb⟩
      obtain ⟨D, hown, hIs, hat0, hhas⟩ := (HD.out.below hb).own
      have HD1 := Aside0.mk (HD.out.below hb)
      have HV1 := Aside0.mk (Kd.V_below HV.out hb)
      have HS1 := Aside0.mk (Kd.S_below HS.out hb)
      have HB1 := Aside0.mk (below_step HB.out hb)
      clear hb HV HS HB HD HBC
      by_cases c3 : ky s ∈ ks
      · have hh : Maps.has D (.string (ky s)) = true := by rw [hhas]; exact decide_eq_true c3
        obtain ⟨q, hq⟩ : ∃ q, q = ks.idxOf (ky s) := ⟨_, rfl⟩
        have hq0 := hat0 (ky s)
        rw [if_pos c3, ← hq] at hq0
        have HQ := Aside0.mk hq0
        have hql : q < gs.length := by rw [hq, ← HZ.out.1]; exact List.idxOf_lt_length_of_mem c3
        have hA := HA'.out
        obtain ⟨gq, hgq⟩ : ∃ x, x = gs.getD q [] := ⟨_, rfl⟩
        rw [grpStep, if_pos c3, ← hq] at hA
        replace hA : grpGo (i + 1) (ks, gs.set q (gq ++ [(i : Int)])) ((keysOf l0).drop (i + 1)) = grpGo 0 ([], []) (keysOf l0) := by rw [hgq]; exact hA
        have HA2 := Aside0.mk hA
        have hqi : (q : Int) < (gs.length : Int) := by omega
        have hq00 : (0 : Int) ≤ (q : Int) := by omega
        have hgl : (gs.getD q []).length ≤ i := HG.out _ (by rw [List.getD_eq_getElem?_getD, List.getElem?_eq_getElem hql]; exact List.getElem_mem hql)
        rw [← hgq] at hgl
        have HGL := Aside0.mk hgl
        obtain ⟨ado, co2, eo2⟩ := Kd.R_slice1 (Kd.S_R HS1.out) (by omega)
        injection eo2 with ea1 _ ea3
        subst ea1
        subst ea3
        obtain ⟨b, rfl⟩ := Kd.R_head (Kd.S_R HS1.out)
        obtain ⟨oki, c, hcl, hM, hcc, hfr, hoki, hH⟩ := Kd.S_elem HS1.out [] (q : Int) hq00 hqi
        obtain ⟨vr, rfl, hR⟩ := hM
        rw [Int.toNat_natCast, ← hgq] at hR
        clear hgq
        have hcell := hcc 0 vr rfl
        have hfree := hfr 0
        rw [Nat.add_zero, show ((Kd.slice 3 (Kd.int .i64))).sz = 1 from rfl, Nat.mul_one, Int.toNat_natCast] at hcell hfree
        have HRR := Aside0.mk hR
        have HHH := Aside0.mk hH
        have HOK := Aside0.mk hoki
        obtain ⟨Ar, cr, er⟩ := Kd.R_slice hR
        subst er
        have HCELL := Aside0.mk hcell
        have HFREE := Aside0.mk hfree
        clear hcl hcc hfr hR hH hoki hat0 hhas hIs c3 hq hq0 hA hgl hfree
        go_wp2_with (first
          | (at_lookup; refine wpList_lookup_own_ok_int _ rfl _ _ 103 rfl 9 3 .i64 law9 Try.underlying103 Try.underlying3 (zero3m _) w.heap.size _ _ rfl hown _ _ rfl hkey ?_; intro c' hat' hwc'; rw [hh]; (have e1 : c' = (q : Int) := by (have h1 := hat'.symm.trans HQ.out; injection h1 with h1; injection h1)); subst e1; clear hat' hwc')
          | ((with_reducible refine gate_builtin (b := .append) (xs := #[.tmp 41, .tmp 43]) rfl ?_); at_builtin; go_loud (refine Kd.R_append (Kd.int .i64) (w0 := w) w.heap.size rfl (.tmp 41) (.tmp 43) 23 3 (.int .i64 0) 8 rfl Try.underlying23 inf3 rfl (by decide) (by omega) (.slice Ar gq.length cr) gq (i : Int) [.int .i64 (i : Int)] (fun k => oki k ∨ (fun k_ => w.heap.size < k_) k ∧ w1.heap.size ≤ k) (fun _ => False) rfl (by first | (go_simp; done) | (go_simp; rfl)) ?aP (fun _ hk => hk.elim) ?aF ?aO ?aB ?aS ?aL ?_; (case aP => exact rfl); (case aB => exact HB1.out); (case aF => exact (fun k hk => .inr ⟨Nat.lt_of_lt_of_le HD1.out.lt hk, hk⟩)); (case aO => exact Kd.R_mono HRR.out (fun k hk => .inl hk)); (case aS => exact below_size HB1.out); (case aL => have h1 := HGL.out; have h2 := HN.out; have h3 := HI'.out; omega); intro v4 w4 ho hb hg hat; obtain ⟨A4, c4, e4⟩ := Kd.R_slice ho; rw [List.length_append, show ([(i : Int)] : List Int).length = 1 from rfl] at e4; subst e4; have HR4 := Aside0.mk ho; have HB4 := Aside0.mk hb; have HV4 := Aside0.mk (Kd.V_grown HV1.out hg (fun k hk he => by have h1 := own_base (Kd.R_own HRR.out).choose_spec k he.symm; have h2 := hk.2; omega)); have HD4 := Aside0.mk (HD1.out.grown hg (fun he => by have h1 := (HOK.out _ (HRR.out.1 _ he.symm)).1; omega)); have HH4 := Aside0.mk (Kd.H_grown (Kd.H_widen HHH.out) hg (fun k hk => .inl (HRR.out.1 k hk))); clear ho hb hg hat HRR HB1 HV1 HD1 HHH))
          | ((with_reducible refine gate_store (t := 23) (p := 45) rfl ?_); go_loud (refine Kd.H_store (Kd.slice 3 (Kd.int .i64)) (w0 := w) w.heap.size rfl rfl 23 (.tmp 45) (.tmp 44) rfl 23 (q : Int) 0 gs (gq ++ [(i : Int)]) (.slice A4 (gq.length + 1) c4) [.slice A4 (gq.length + 1) c4] _ _ _ (fun k => oki k ∨ (fun k_ => w.heap.size < k_) k ∧ w1.heap.size ≤ k) rfl ?bO rfl ?bU (by kernel_rfl) ?b1 HH4.out hq00 hqi (Nat.le_refl _) ?bM (fun k hk => hk) HB4.out ?_; (case bO => (rw [Int.toNat_natCast, show ((Kd.slice 3 (Kd.int .i64))).sz = 1 from rfl]; omega)); (case bU => rfl); (case b1 => (simp [Value.oneCell'])); (case bM => exact ⟨_, rfl, HR4.out⟩); intro w9 hs9 hb9 hg9; rw [Int.toNat_natCast] at hs9; have HS9 := Aside0.mk hs9; have HB9 := Aside0.mk hb9; have HV9 := Aside0.mk (Kd.V_grown HV4.out hg9 (fun k hk he => by injection he with he; have h1 := (Kd.S_R hs9).1 b rfl; have h2 := hk.2; omega)); have HD9 := Aside0.mk (HD4.out.grown hg9 (fun he => by injection he with he; have h1 := (Kd.S_R hs9).1 b rfl; omega)); clear hs9 hb9 hg9 HB4 HV4 HD4 HH4 HR4)))
        go_roundg k1
        case measure => omega
        case rel => exact ⟨i + 1, ks, gs.set q (gq ++ [(i : Int)]), by rw [HW.out], HI', ⟨by have := HZ.out; simp; omega⟩, ⟨fun g hg => by
            rcases List.mem_or_eq_of_mem_set hg with hg | hg
            · have := HG.out g hg; omega
            · rw [hg, List.length_append]; have := HGL.out; simp; omega⟩, HA2, ⟨HD9.out.more⟩, HV9, HS9, HB9⟩
      · have hh : Maps.has D (.string (ky s)) = false := by rw [hhas]; exact decide_eq_false c3
        have hq0 := hat0 (ky s)
        rw [if_neg c3] at hq0
        have HQ := Aside0.mk hq0
        have HPC := Aside0.mk (put_at hIs hat0 hhas c3)
        rw [HZ.out.1] at HPC
        have hA := HA'.out
        rw [grpStep, if_neg c3] at hA
        have HA2 := Aside0.mk hA
        have HGL2 := Aside0.mk (show gs.length < 1000000000 by have h1 := HZ.out; have h2 := HN.out; omega)
        have hwq : (Lit.int .i64 (gs.length : Int)).wf = true := WalkArith.wf_i64 (by have := HGL2.out; omega)
        have HWQ := Aside0.mk hwq
        have hq00 : (0 : Int) ≤ (gs.length : Int) := by omega
        have hqi : (gs.length : Int) < ((gs.length + 1 : Nat) : Int) := by omega
        clear hat0 hhas hIs c3 hq0 hA hwq
        go_wp2_with (first
          | (at_lookup; refine wpList_lookup_own_ok_int _ rfl _ _ 103 rfl 9 3 .i64 law9 Try.underlying103 Try.underlying3 (zero3m _) w.heap.size _ _ rfl hown _ _ rfl hkey ?_; intro c' hat' hwc'; rw [hh]; (have e1 : c' = 0 := by (have h1 := hat'.symm.trans HQ.out; injection h1 with h1; injection h1)); subst e1; clear hat' hwc')
          | (at_mapUpdate; refine wpList_mapUpdate_own _ rfl _ _ _ 103 rfl 9 3 law9 Try.underlying103 _ w.heap.size _ _ rfl hown HK.out _ _ _ rfl rfl hkey _ [] (plainElem_int Try.underlying3 HWQ.out) ?_; intro w2 hown1 hg1; have HD2 := Aside0.mk (AtM.mk ⟨_, hown1, HPC.out.1, HPC.out.2.1, HPC.out.2.2⟩); have HV2 := Aside0.mk (Kd.V_grown HV1.out hg1 (fun k hk he => by injection he with he; have := hk.2; omega)); have HS2 := Aside0.mk (Kd.S_grown HS1.out hg1 (fun k hk he => by injection he with he; omega)); have HB2 := Aside0.mk (pw_below_grown HB1.out _ (below_size HB1.out) hg1 (fun k hk => by injection hk with hk; omega)); clear HV1 HS1 HB1 HD1 hg1 hown1 hown)
          | ((with_reducible refine gate_builtin (b := .append) (xs := #[.tmp 33, .tmp 34]) rfl ?_); at_builtin; refine Kd.S_append (Kd.slice 3 (Kd.int .i64)) (w0 := w) w.heap.size rfl (.tmp 33) (.tmp 34) 66 23 (.slice none 0 0) 24 rfl Try.underlying66 inf23 rfl (by decide) (by omega) (.slice Ao gs.length co) gs ([] : List Int) [.slice none 0 0] (fun k_ => w.heap.size < k_) (fun _ => False) rfl rfl ?aP (fun _ hk => hk.elim) ?aF ?aO ?aB ?aS ?aL ?_; (case aP => exact ⟨_, rfl, Kd.R_nil _ _ _ _ _⟩); (case aB => exact HB2.out); (case aF => exact (fun k hk => Nat.lt_of_lt_of_le HD2.out.lt hk)); (case aO => exact Kd.S_mono HS2.out (fun k hk => ⟨hk, fun h => h⟩)); (case aS => exact below_size HB2.out); (case aL => have := HGL2.out; omega); intro v3 w3 ho hb hg hat; have HS3 := Aside0.mk ho; have HB3 := Aside0.mk hb; have HV3 := Aside0.mk (Kd.V_grown HV2.out hg (fun k hk he => by have h1 := own_base (Kd.R_own (Kd.S_R HS2.out)).choose_spec k he.symm; have h2 := hk.2; omega)); have HD3 := Aside0.mk (HD2.out.grown hg (fun he => by have h1 := (Kd.S_R HS2.out).1 _ he.symm; omega)); clear ho hb hg hat HS2 HB2 HV2 HD2; (obtain ⟨ado, co2, eo2⟩ := Kd.R_slice1 (Kd.S_R HS3.out) (by simp)); rw [List.length_append, show ([([] : List Int)] : List (List Int)).length = 1 from rfl] at eo2; subst eo2; (obtain ⟨b, rfl⟩ := Kd.R_head (Kd.S_R HS3.out)); (obtain ⟨oki, c, hcl, hM, hcc, hfr, hoki, hH⟩ := Kd.S_elem HS3.out [] (gs.length : Int) hq00 hqi); (obtain ⟨vr, rfl, hR⟩ := hM); rw [Int.toNat_natCast, List.getD_eq_getElem?_getD, List.getElem?_append_right (Nat.le_refl _), Nat.sub_self] at hR; replace hR : (Kd.int .i64).R 3 w3 w.heap.size oki vr ([] : List Int) := hR; have hcell := hcc 0 vr rfl; have hfree := hfr 0; rw [Nat.add_zero, show ((Kd.slice 3 (Kd.int .i64))).sz = 1 from rfl, Nat.mul_one, Int.toNat_natCast] at hcell hfree; have HRR := Aside0.mk hR; have HHH := Aside0.mk hH; have HOK := Aside0.mk hoki; (obtain ⟨Ar, cr, er⟩ := Kd.R_slice hR); subst er; replace hcell : w3.cell? ⟨b, gs.length, none⟩ = some (.slice Ar 0 cr) := hcell; clear hcl hcc hfr hR hH hoki)
          | ((with_reducible refine gate_builtin (b := .append) (xs := #[.tmp 41, .tmp 43]) rfl ?_); at_builtin; go_loud (refine Kd.R_append (Kd.int .i64) (w0 := w) w.heap.size rfl (.tmp 41) (.tmp 43) 23 3 (.int .i64 0) 8 rfl Try.underlying23 inf3 rfl (by decide) (by omega) (.slice Ar 0 cr) ([] : List Int) (i : Int) [.int .i64 (i : Int)] (fun k => oki k ∨ (fun k_ => w.heap.size < k_) k ∧ w3.heap.size ≤ k) (fun _ => False) rfl (by first | (go_simp; done) | (go_simp; rfl)) ?aP (fun _ hk => hk.elim) ?aF ?aO ?aB ?aS ?aL ?_; (case aP => exact rfl); (case aB => exact HB3.out); (case aF => exact (fun k hk => .inr ⟨Nat.lt_of_lt_of_le HD3.out.lt hk, hk⟩)); (case aO => exact Kd.R_mono HRR.out (fun k hk => .inl hk)); (case aS => exact below_size HB3.out); (case aL => simp); intro v4 w4 ho hb hg hat; obtain ⟨A4, c4, e4⟩ := Kd.R_slice ho; rw [show (([] : List Int) ++ [(i : Int)]).length = 1 from rfl] at e4; subst e4; have HR4 := Aside0.mk ho; have HB4 := Aside0.mk hb; have HV4 := Aside0.mk (Kd.V_grown HV3.out hg (fun k hk he => by have h1 := own_base (Kd.R_own HRR.out).choose_spec k he.symm; have h2 := hk.2; omega)); have HD4 := Aside0.mk (HD3.out.grown hg (fun he => by have h1 := (HOK.out _ (HRR.out.1 _ he.symm)).1; omega)); have HH4 := Aside0.mk (Kd.H_grown (Kd.H_widen HHH.out) hg (fun k hk => .inl (HRR.out.1 k hk))); clear ho hb hg hat HRR HB3 HV3 HD3 HHH))
          | ((with_reducible refine gate_store (t := 23) (p := 45) rfl ?_); go_loud (refine Kd.H_store (Kd.slice 3 (Kd.int .i64)) (w0 := w) w.heap.size rfl rfl 23 (.tmp 45) (.tmp 44) rfl 23 (gs.length : Int) 0 (gs ++ [[]]) [(i : Int)] (.slice A4 (1) c4) [.slice A4 (1) c4] _ _ _ (fun k => oki k ∨ (fun k_ => w.heap.size < k_) k ∧ w3.heap.size ≤ k) rfl ?bO rfl ?bU (by kernel_rfl) ?b1 HH4.out hq00 hqi (Nat.le_refl _) ?bM (fun k hk => hk) HB4.out ?_; (case bO => (rw [Int.toNat_natCast, show ((Kd.slice 3 (Kd.int .i64))).sz = 1 from rfl]; omega)); (case bU => rfl); (case b1 => (simp [Value.oneCell'])); (case bM => exact ⟨_, rfl, HR4.out⟩); intro w9 hs9 hb9 hg9; rw [Int.toNat_natCast, List.set_append_right _ _ (Nat.le_refl _), Nat.sub_self, List.set_cons_zero] at hs9; have HS9 := Aside0.mk hs9; have HB9 := Aside0.mk hb9; have HV9 := Aside0.mk (Kd.V_grown HV4.out hg9 (fun k hk he => by injection he with he; have h1 := (Kd.S_R hs9).1 b rfl; have h2 := hk.2; omega)); have HD9 := Aside0.mk (HD4.out.grown hg9 (fun he => by injection he with he; have h1 := (Kd.S_R hs9).1 b rfl; omega)); clear hs9 hb9 hg9 HB4 HV4 HD4 HH4 HR4)))
        go_roundg k1
        case measure => omega
        case rel => exact ⟨i + 1, ks ++ [ky s], gs ++ [[(i : Int)]], by rw [HW.out], HI', ⟨by have := HZ.out; simp; omega⟩, ⟨fun g hg => by
            rcases List.mem_append.1 hg with hg | hg
            · have := HG.out g hg; omega
            · rw [List.mem_singleton.1 hg]; simp⟩, HA2, ⟨HD9.out⟩, HV9, HS9, HB9⟩
    · have c2b : decide ((i : Int) < (l0.length : Int)) = false := decide_eq_false c2
      have hA := HA.out
      rw [show i = l0.length by have := HI.out; omega, show l0.length = (keysOf l0).length by unfold keysOf; simp, List.drop_length] at hA
      have hg : gs = groupsL l0 := by unfold groupsL; rw [← hA]; rfl
      subst hg
      obtain ⟨Ao, co, eo⟩ := Kd.S_slice HS.out
      subst eo
      clear hA
      go_wp2
      go_ret
      exact ⟨_, rfl, HS.out, HB.out⟩
end Go.Proofs.Ythghflgmeepnlaa.Pa
end
section
namespace Go.Proofs.Ythghflgmeepnlaa.Pa
open Go.RowKit Go.Proofs.YthghflgmeepnlaaW.PrintWords Go.Proofs.YthghflgmeepnlaaW.PrintLast Go.Proofs.YthghflgmeepnlaaW.PrintMore
set_option linter.unusedVariables false
set_option linter.unusedSimpArgs false
def cmpS (a b : ByteArray) : Int := if Op.bytesLess a.toList b.toList = true then -1 else if a.toList = b.toList then 0 else 1
def cmp_Compare_string.f (a0 a1 : ByteArray) : Option Int := some (cmpS a0 a1)
theorem less_irrefl : ∀ l : List UInt8, Op.bytesLess l l = false := by
  intro l
  induction l with
  | nil => rfl
  | cons a l ih => simp [Op.bytesLess, ih]
set_option maxRecDepth 100000 in
set_option maxHeartbeats 1000000 in
theorem cmp_Compare_string.calls (a0 a1 : ByteArray) (r : Int) (w : World) (h : cmp_Compare_string.f a0 a1 = some r) :
    Calls Try.prog 87 #[.string a0, .string a1] w fun e w' => e = .returned (.int .i64 r) ∧ Drawn0 w w' := by
  obtain rfl := Option.some.inj h
  clear h
  unfold cmpS
  by_cases h1 : Op.bytesLess a0.toList a1.toList = true
  · rw [if_pos h1]
    go_enter Try.func87, Try.ntmps87
    go_wp2
    go_ret
    exact ⟨rfl, Drawn0.refl _⟩
  · have h1 : Op.bytesLess a0.toList a1.toList = false := by simpa using h1
    rw [if_neg (by simp [h1])]
    by_cases h2 : a0.toList = a1.toList
    · rw [if_pos h2]
      have h3 : (a0.toList == a1.toList) = true := by simpa using h2
      clear h2
      go_enter Try.func87, Try.ntmps87
      go_wp2
      go_ret
      exact ⟨rfl, Drawn0.refl _⟩
    · rw [if_neg h2]
      have h3 : (a0.toList == a1.toList) = false := by simpa using h2
      clear h2
      go_enter Try.func87, Try.ntmps87
      go_wp2
      go_ret
      exact ⟨rfl, Drawn0.refl _⟩
end Go.Proofs.Ythghflgmeepnlaa.Pa
end
