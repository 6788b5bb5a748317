/- What RowsSorts hangs on, part 5 of 5: our texts put together by trim.py, without what the proof does not need. -/
import Derived.Test.YthghflgmeepnlaaZS1
import Derived.Test.YthghflgmeepnlaaZS4
import Derived.Test.YthghflgmeepnlaaZS3
import Derived.Test.YthghflgmeepnlaaZS2
import Derived.Laws.EntriesVeiled
import Derived.Lib.SliceRun
section
namespace Go.Proofs.Ythghflgmeepnlaa.Pa
open Go.RowKit Go.Proofs.YthghflgmeepnlaaW.PrintWords Go.Proofs.YthghflgmeepnlaaW.PrintLast Go.Proofs.YthghflgmeepnlaaW.PrintMore
attribute [local go_sem] max2_int max_two
set_option linter.unusedVariables false
set_option linter.unusedSimpArgs false
mutual
def cordonref11_Sort.l0 : Nat → List (List (S33)) → List (List (S33)) → List Bool → List Int → Int → Option ((List (List (S33))))
  | 0, _, _, _, _, _ => none
  | k + 1, x0, x1, x2, x7, x8 => if x8 < (x0.length : Int) then (cordonref11_Sort.l1 k x0 x1 x2 x7 x8 (x7.length : Int)) else (cordonref11_Sort.l2 k x0 x7 ([] : List (List (S33))) 0)
def cordonref11_Sort.l1 : Nat → List (List (S33)) → List (List (S33)) → List Bool → List Int → Int → Int → Option ((List (List (S33))))
  | 0, _, _, _, _, _, _ => none
  | k + 1, x0, x1, x2, x7, x8, x9 => if x9 > 0 then (if 0 ≤ (wrap64 (x9 - 1)) then (if (wrap64 (x9 - 1)) < (x7.length : Int) then ((cordonref11_key.f x1 (rd x7 (wrap64 (x9 - 1)))).bind fun t625 => ((cordonref11_key.f x1 x8).bind fun t628 => ((cordonref11_Order.f k t625 t628 x2).bind fun t631 => (if t631 > 0 then (cordonref11_Sort.l1 k x0 x1 x2 x7 x8 (wrap64 (x9 - 1))) else ((some (([] : List Int) : List Int)).bind fun y632 => (if 0 ≤ x9 then (if x9 ≤ (x7.length : Int) then ((some (x7.take (x9 : Int).toNat : List Int)).bind fun y635 => (if y632.length + y635.length < 17592186044416 then ((some (y632 ++ y635 : List Int)).bind fun y640 => ((some (([x8] : List Int) : List Int)).bind fun y643 => (if y640.length + y643.length < 17592186044416 then ((some (y640 ++ y643 : List Int)).bind fun y646 => ((some (x7.drop (x9 : Int).toNat : List Int)).bind fun y649 => (if y646.length + y649.length < 17592186044416 then (cordonref11_Sort.l0 k x0 x1 x2 (y646 ++ y649) (wrap64 (x8 + 1))) else (none)))) else (none)))) else (none))) else (none)) else (none))))))) else (none)) else (none)) else ((some (([] : List Int) : List Int)).bind fun y657 => (if 0 ≤ x9 then (if x9 ≤ (x7.length : Int) then ((some (x7.take (x9 : Int).toNat : List Int)).bind fun y660 => (if y657.length + y660.length < 17592186044416 then ((some (y657 ++ y660 : List Int)).bind fun y665 => ((some (([x8] : List Int) : List Int)).bind fun y668 => (if y665.length + y668.length < 17592186044416 then ((some (y665 ++ y668 : List Int)).bind fun y671 => ((some (x7.drop (x9 : Int).toNat : List Int)).bind fun y674 => (if y671.length + y674.length < 17592186044416 then (cordonref11_Sort.l0 k x0 x1 x2 (y671 ++ y674) (wrap64 (x8 + 1))) else (none)))) else (none)))) else (none))) else (none)) else (none)))
def cordonref11_Sort.l2 : Nat → List (List (S33)) → List Int → List (List (S33)) → Int → Option ((List (List (S33))))
  | 0, _, _, _, _ => none
  | k + 1, x0, x7, x10, x11 => if x11 < (x7.length : Int) then (if 0 ≤ x11 then (if 0 ≤ (rd x7 x11) then (if (rd x7 x11) < (x0.length : Int) then ((some (([rd_L4 x0 (rd x7 x11)] : List (List (S33))) : List (List (S33)))).bind fun y684 => (if x10.length + y684.length < 5864062014805 then (cordonref11_Sort.l2 k x0 x7 (x10 ++ y684) (wrap64 (x11 + 1))) else (none))) else (none)) else (none)) else (none)) else (some x10)
end
def cordonref11_Sort.f (k : Nat) (l0 : List (List (S33))) (l1 : List (List (S33))) (l2 : List Bool) : Option ((List (List (S33)))) := cordonref11_Sort.l0 k l0 l1 l2 ([] : List Int) 0
def cordonref11_Sort.T8 : Bool × List (List Nat × List Nat) := (true, [([], []), ([], []), ([], []), ([1, 2], [1, 2]), ([0, 3], [0, 3]), ([], []), ([5], [5]), ([4, 6, 4], [4, 6]), ([], []), ([], []), ([8, 9], [8, 9]), ([7, 10, 7], [7, 10]), ([11, 11, 0, 1, 2, 3, 4, 5, 6, 7, 8, 9, 10, 11], [1, 8, 11])])
def cordonref11_Sort.B8 : List Nat := [0, 0, 0, 6, 15, 0, 32, 127, 0, 0, 768, 2047, 4095]
theorem cordonref11_Sort.tab8 : rtab .any (opsOf Try.f58 8) = cordonref11_Sort.T8 := by kernel_rfl
theorem cordonref11_Sort.bits8 : waitsOk cordonref11_Sort.T8.2 cordonref11_Sort.B8 = true := by kernel_rfl
set_option maxHeartbeats 8000000 in
set_option maxRecDepth 100000 in
theorem cordonref11_Sort.calls (k : Nat) (P0_ : Nat → Prop) (A0 : Option Addr) (c0 : Nat) (l0 : List (List (S33))) (P1_ : Nat → Prop) (A1 : Option Addr) (c1 : Nat) (l1 : List (List (S33))) (A2 : Option Addr) (c2 : Nat) (l2 : List Bool) (r : List (List (S33))) (w : World) (hs0 : Kd.V (Kd.slice 33 k33) 22 w w.heap.size (fun k_ => P0_ k_) (.slice A0 l0.length c0) l0) (hs1 : Kd.V (Kd.slice 33 k33) 22 w w.heap.size (fun k_ => P1_ k_) (.slice A1 l1.length c1) l1) (hr2 : Kd.C Kd.bool w A2 l2.length l2) (hc2 : l2.length ≤ c2) (h : cordonref11_Sort.f k l0 l1 l2 = some r) :
    Calls Try.prog 58 #[.slice A0 l0.length c0, .slice A1 l1.length c1, .slice A2 l2.length c2] w fun e w' => ∃ v0_ : Value, e = .returned (v0_) ∧ Kd.N (Kd.slice 33 k33) 22 w' w.heap.size (fun k_ => ((P0_ k_ ∨ P1_ k_) ∨ w.heap.size ≤ k_)) v0_ r ∧ Below w.heap.size w w' := by
  have HO0 := Aside0.mk (show Kd.V (Kd.slice 33 k33) 22 w w.heap.size (fun k_ => ((P0_ k_ ∨ P1_ k_) ∨ w.heap.size ≤ k_)) (.slice A0 l0.length c0) l0 from Kd.V_mono hs0 (fun k_ hk => .inl (.inl hk)))
  have HO1 := Aside0.mk (show Kd.V (Kd.slice 33 k33) 22 w w.heap.size (fun k_ => ((P0_ k_ ∨ P1_ k_) ∨ w.heap.size ≤ k_)) (.slice A1 l1.length c1) l1 from Kd.V_mono hs1 (fun k_ hk => .inl (.inr hk)))
  have HR2 := Aside0.mk hr2
  have HC2 := Aside0.mk hc2
  clear hr2 hc2
  have HB := Aside0.mk (Below.refl w.heap.size w)
  have H : (cordonref11_Sort.l0 k l0 l1 l2 ([] : List Int) 0) = some r := h
  clear h
  have H' := Aside0.mk H
  clear H
  go_enter Try.func58, Try.ntmps58
  go_wp2
  go_loopg [7, 8] k (fun kq v7 v8 w' => ∃ (x7_1 : List Int) (x8_1 : Int), v8 = .int .i64 x8_1 ∧ Aside0 (cordonref11_Sort.l0 kq l0 l1 l2 x7_1 x8_1 = some r) ∧ Aside0 (kq ≤ k) ∧ Aside0 (Kd.V (Kd.slice 33 k33) 22 w' w.heap.size (fun k_ => ((P0_ k_ ∨ P1_ k_) ∨ w.heap.size ≤ k_) ∧ some k_ ≠ (v7 : Value).ownBlock) (.slice A0 l0.length c0) l0) ∧ Aside0 (Kd.V (Kd.slice 33 k33) 22 w' w.heap.size (fun k_ => ((P0_ k_ ∨ P1_ k_) ∨ w.heap.size ≤ k_) ∧ some k_ ≠ (v7 : Value).ownBlock) (.slice A1 l1.length c1) l1) ∧ Aside0 (Kd.R (Kd.int .i64) 3 w' w.heap.size (fun k_ => (w.heap.size ≤ k_)) v7 x7_1) ∧ Aside0 (Below w.heap.size w w'))
  case atStart => exact ⟨(([] : List Int)), (0), (by first | rfl | (simp; done) | (simp [*]; done)), H', ⟨Nat.le_refl _⟩, ⟨by (with_reducible repeat (first | apply Kd.V_alloc | apply Kd.V_drewN | apply Kd.V_drew)); exact Kd.V_mono HO0.out (fun _ hk => ⟨hk, (by simp [Value.ownBlock])⟩)⟩, ⟨by (with_reducible repeat (first | apply Kd.V_alloc | apply Kd.V_drewN | apply Kd.V_drew)); exact Kd.V_mono HO1.out (fun _ hk => ⟨hk, (by simp [Value.ownBlock])⟩)⟩, ⟨by first | exact Kd.R_nil _ _ _ _ _ | exact Kd.N_nil _ _ _ _ _ | exact Kd.V_nil _ _ _ _ _ | exact Kd.Q_nil _ _ _ _ _ | exact Kd.S_nil _ _ _ _ _⟩, ⟨by repeat (first | (with_reducible first | exact HB.out | apply below_alloc | apply pw_below_drewN | apply below_drew1) | exact HB.out)⟩⟩
  case round =>
    clear H'
    try clear c1
    try clear c2
    try clear p2
    obtain ⟨x7_1, x8_1, rfl, HA, HK1, HO_0, HO_1, HO_7, HB⟩ := hrel
    cases gk with
    | zero => exact absurd HA.out (by simp [cordonref11_Sort.l0])
    | succ k1 =>
      have H := HA.out
      clear HA
      simp only [cordonref11_Sort.l0] at H
      by_cases c4 : x8_1 < (l0.length : Int)
      · rw [if_pos c4] at H
        have c4b0 : decide (x8_1 < (l0.length : Int)) = true := decide_eq_true c4
        clear c4
        have H' := Aside0.mk H
        clear H
        obtain ⟨Ao5, co5, eo5⟩ := Kd.R_slice HO_7.out
        subst eo5
        go_wp2
        go_loopg [9] k1 (fun kq v9 w' => ∃ (x9_2 : Int), v9 = .int .i64 x9_2 ∧ Aside0 (cordonref11_Sort.l1 kq l0 l1 l2 x7_1 x8_1 x9_2 = some r) ∧ Aside0 (kq ≤ k1) ∧ Aside0 (Kd.V (Kd.slice 33 k33) 22 w' w.heap.size (fun k_ => ((P0_ k_ ∨ P1_ k_) ∨ w.heap.size ≤ k_) ∧ some k_ ≠ ((.slice Ao5 x7_1.length co5) : Value).ownBlock) (.slice A0 l0.length c0) l0) ∧ Aside0 (Kd.V (Kd.slice 33 k33) 22 w' w.heap.size (fun k_ => ((P0_ k_ ∨ P1_ k_) ∨ w.heap.size ≤ k_) ∧ some k_ ≠ ((.slice Ao5 x7_1.length co5) : Value).ownBlock) (.slice A1 l1.length c1) l1) ∧ Aside0 (Kd.R (Kd.int .i64) 3 w' w.heap.size (fun k_ => (w.heap.size ≤ k_)) (.slice Ao5 x7_1.length co5) x7_1) ∧ Aside0 (Below w.heap.size w w'))
        case atStart => exact ⟨((x7_1.length : Int)), (by first | rfl | (simp; done) | (simp [*]; done)), H', ⟨Nat.le_refl _⟩, ⟨by (with_reducible repeat (first | apply Kd.V_alloc | apply Kd.V_drewN | apply Kd.V_drew)); exact HO_0.out⟩, ⟨by (with_reducible repeat (first | apply Kd.V_alloc | apply Kd.V_drewN | apply Kd.V_drew)); exact HO_1.out⟩, ⟨by (with_reducible repeat (first | apply Kd.R_alloc | apply Kd.R_drewN | apply Kd.R_drew)); exact HO_7.out⟩, ⟨by repeat (first | (with_reducible first | exact HB.out | apply below_alloc | apply pw_below_drewN | apply below_drew1) | exact HB.out)⟩⟩
        case round =>
          clear H'
          try clear c1
          try clear c2
          try clear p2
          try clear c4
          try clear c4b0
          try clear c5
          try clear p2
          obtain ⟨x9_2, rfl, HA, HK2, HO_0, HO_1, HO_7, HB⟩ := hrel
          cases gk with
          | zero => exact absurd HA.out (by simp [cordonref11_Sort.l1])
          | succ k2 =>
            have H := HA.out
            clear HA
            simp only [cordonref11_Sort.l1] at H
            by_cases c6 : x9_2 > 0
            · rw [if_pos c6] at H
              have c6b0 : decide (0 < x9_2) = true := decide_eq_true c6
              clear c6
              obtain ⟨ji7, hji7⟩ : ∃ j_ : Int, (wrap64 (x9_2 - 1)) = j_ := ⟨_, rfl⟩
              replace H : (if 0 ≤ (ji7) then (if (ji7) < (x7_1.length : Int) then ((cordonref11_key.f l1 (rd x7_1 (ji7))).bind fun t625 => ((cordonref11_key.f l1 x8_1).bind fun t628 => ((cordonref11_Order.f k2 t625 t628 l2).bind fun t631 => (if t631 > 0 then (cordonref11_Sort.l1 k2 l0 l1 l2 x7_1 x8_1 ji7) else ((some (([] : List Int) : List Int)).bind fun y632 => (if 0 ≤ x9_2 then (if x9_2 ≤ (x7_1.length : Int) then ((some (x7_1.take (x9_2 : Int).toNat : List Int)).bind fun y635 => (if y632.length + y635.length < 17592186044416 then ((some (y632 ++ y635 : List Int)).bind fun y640 => ((some (([x8_1] : List Int) : List Int)).bind fun y643 => (if y640.length + y643.length < 17592186044416 then ((some (y640 ++ y643 : List Int)).bind fun y646 => ((some (x7_1.drop (x9_2 : Int).toNat : List Int)).bind fun y649 => (if y646.length + y649.length < 17592186044416 then (cordonref11_Sort.l0 k2 l0 l1 l2 (y646 ++ y649) (wrap64 (x8_1 + 1))) else (none)))) else (none)))) else (none))) else (none)) else (none))))))) else (none)) else (none)) = some r := by first | (rw [hji7] at H; exact H) | (simp only [hji7] at H ⊢; exact H)
              have hji7w : (IntKind.i64.wrap (x9_2 - 1)) = ji7 := (i64_w _).trans hji7
              by_cases c8 : 0 ≤ (ji7)
              · rw [if_pos c8] at H
                have c8b0 : decide (0 ≤ (ji7)) = true := decide_eq_true c8
                clear c8
                by_cases c9 : (ji7) < (x7_1.length : Int)
                · rw [if_pos c9] at H
                  have c9b0 : decide ((ji7) < (x7_1.length : Int)) = true := decide_eq_true c9
                  clear c9
                  replace H := Option.bind_eq_some_iff.mp H
                  obtain ⟨t625, A100, H⟩ := H
                  replace H : ((cordonref11_key.f l1 x8_1).bind fun t628 => ((cordonref11_Order.f k2 t625 t628 l2).bind fun t631 => (if t631 > 0 then (cordonref11_Sort.l1 k2 l0 l1 l2 x7_1 x8_1 ji7) else ((some (([] : List Int) : List Int)).bind fun y632 => (if 0 ≤ x9_2 then (if x9_2 ≤ (x7_1.length : Int) then ((some (x7_1.take (x9_2 : Int).toNat : List Int)).bind fun y635 => (if y632.length + y635.length < 17592186044416 then ((some (y632 ++ y635 : List Int)).bind fun y640 => ((some (([x8_1] : List Int) : List Int)).bind fun y643 => (if y640.length + y643.length < 17592186044416 then ((some (y640 ++ y643 : List Int)).bind fun y646 => ((some (x7_1.drop (x9_2 : Int).toNat : List Int)).bind fun y649 => (if y646.length + y649.length < 17592186044416 then (cordonref11_Sort.l0 k2 l0 l1 l2 (y646 ++ y649) (wrap64 (x8_1 + 1))) else (none)))) else (none)))) else (none))) else (none)) else (none)))))) = some r := H
                  have A10 := Aside0.mk A100
                  clear A100
                  replace H := Option.bind_eq_some_iff.mp H
                  obtain ⟨t628, A110, H⟩ := H
                  replace H : ((cordonref11_Order.f k2 t625 t628 l2).bind fun t631 => (if t631 > 0 then (cordonref11_Sort.l1 k2 l0 l1 l2 x7_1 x8_1 ji7) else ((some (([] : List Int) : List Int)).bind fun y632 => (if 0 ≤ x9_2 then (if x9_2 ≤ (x7_1.length : Int) then ((some (x7_1.take (x9_2 : Int).toNat : List Int)).bind fun y635 => (if y632.length + y635.length < 17592186044416 then ((some (y632 ++ y635 : List Int)).bind fun y640 => ((some (([x8_1] : List Int) : List Int)).bind fun y643 => (if y640.length + y643.length < 17592186044416 then ((some (y640 ++ y643 : List Int)).bind fun y646 => ((some (x7_1.drop (x9_2 : Int).toNat : List Int)).bind fun y649 => (if y646.length + y649.length < 17592186044416 then (cordonref11_Sort.l0 k2 l0 l1 l2 (y646 ++ y649) (wrap64 (x8_1 + 1))) else (none)))) else (none)))) else (none))) else (none)) else (none))))) = some r := H
                  have A11 := Aside0.mk A110
                  clear A110
                  replace H := Option.bind_eq_some_iff.mp H
                  obtain ⟨t631, A120, H⟩ := H
                  replace H : (if t631 > 0 then (cordonref11_Sort.l1 k2 l0 l1 l2 x7_1 x8_1 ji7) else ((some (([] : List Int) : List Int)).bind fun y632 => (if 0 ≤ x9_2 then (if x9_2 ≤ (x7_1.length : Int) then ((some (x7_1.take (x9_2 : Int).toNat : List Int)).bind fun y635 => (if y632.length + y635.length < 17592186044416 then ((some (y632 ++ y635 : List Int)).bind fun y640 => ((some (([x8_1] : List Int) : List Int)).bind fun y643 => (if y640.length + y643.length < 17592186044416 then ((some (y640 ++ y643 : List Int)).bind fun y646 => ((some (x7_1.drop (x9_2 : Int).toNat : List Int)).bind fun y649 => (if y646.length + y649.length < 17592186044416 then (cordonref11_Sort.l0 k2 l0 l1 l2 (y646 ++ y649) (wrap64 (x8_1 + 1))) else (none)))) else (none)))) else (none))) else (none)) else (none)))) = some r := H
                  have A12 := Aside0.mk A120
                  clear A120
                  by_cases c13 : t631 > 0
                  · rw [if_pos c13] at H
                    have c13b0 : decide (0 < t631) = true := decide_eq_true c13
                    clear c13
                    have H' := Aside0.mk H
                    clear H
                    have p624 : 0 ≤ ((ji7) : Int) := of_decide_eq_true (by first | (with_reducible assumption) | assumption)
                    have q624 : (ji7) < (x7_1.length : Int) := of_decide_eq_true (by first | (with_reducible assumption) | assumption)
                    obtain ⟨ad624, e624, hx624_0⟩ := Kd.at_int (Kd.R_reads' HO_7.out).2.2 (ji7) p624 q624
                    cases e624
                    replace p624 := eq_true p624
                    replace q624 := eq_true q624
                    go_wp2_with (first | (go_at_call 97; (with_reducible refine (cordonref11_key.calls (fun k_ => (((P0_ k_ ∨ P1_ k_) ∨ w.heap.size ≤ k_) ∧ some k_ ≠ (.slice (some ad624) x7_1.length co5 : Value).ownBlock)) _ _ l1 (rd x7_1 (ji7)) t625 _ ?side1 A10.out).mono ?_); (case side1 => exact HO_1.out); rintro e w14 ⟨v626, rfl, ho0, hb⟩; have n0_ := Aside0.mk (Kd.V_below (by (with_reducible repeat (first | apply Kd.V_alloc | apply Kd.V_drewN | apply Kd.V_drew)); exact HO_0.out) hb); have n1_ := Aside0.mk (Kd.V_below (by (with_reducible repeat (first | apply Kd.V_alloc | apply Kd.V_drewN | apply Kd.V_drew)); exact HO_1.out) hb); have n2_ := Aside0.mk (Kd.R_below (by (with_reducible repeat (first | apply Kd.R_alloc | apply Kd.R_drewN | apply Kd.R_drew)); exact HO_7.out) hb); have n3_ := Aside0.mk (Kd.V_lower (Kd.V_mono (ok' := fun k_ => ((P0_ k_ ∨ P1_ k_) ∨ w.heap.size ≤ k_) ∧ some k_ ≠ (.slice (some ad624) x7_1.length co5 : Value).ownBlock) ho0 (fun k_ hk_ => ⟨Or.elim hk_ (fun hs_ => hs_.1) (fun hn_ => (.inr (Nat.le_trans (below_size (by repeat (first | (with_reducible first | exact HB.out | apply below_alloc | apply pw_below_drewN | apply below_drew1) | exact HB.out))) hn_))), Or.elim hk_ (fun hs_ => hs_.2) (fun hn_ => (Kd.fresh' (Kd.R_lt (by (with_reducible repeat (first | apply Kd.R_alloc | apply Kd.R_drewN | apply Kd.R_drew)); exact HO_7.out)) k_ hn_))⟩)) (below_size (by repeat (first | (with_reducible first | exact HB.out | apply below_alloc | apply pw_below_drewN | apply below_drew1) | exact HB.out)))); have n4_ := Aside0.mk (below_step (by repeat (first | (with_reducible first | exact HB.out | apply below_alloc | apply pw_below_drewN | apply below_drew1) | exact HB.out)) hb); clear HO_0; clear HO_1; clear HO_7; clear HB; have HO_0 := n0_; have HO_1 := n1_; have HO_7 := n2_; have HO627 := n3_; have HB := n4_; clear n0_ n1_ n2_ n3_ n4_; (try clear hb); (try clear hb2); (try clear hk); (try clear hi); (try clear ho0)) | (go_at_call 97; (with_reducible refine (cordonref11_key.calls (fun k_ => (((P0_ k_ ∨ P1_ k_) ∨ w.heap.size ≤ k_) ∧ some k_ ≠ (.slice (some ad624) x7_1.length co5 : Value).ownBlock)) _ _ l1 x8_1 t628 _ ?side1 A11.out).mono ?_); (case side1 => exact HO_1.out); rintro e w15 ⟨v629, rfl, ho0, hb⟩; have n0_ := Aside0.mk (Kd.V_below (by (with_reducible repeat (first | apply Kd.V_alloc | apply Kd.V_drewN | apply Kd.V_drew)); exact HO_0.out) hb); have n1_ := Aside0.mk (Kd.V_below (by (with_reducible repeat (first | apply Kd.V_alloc | apply Kd.V_drewN | apply Kd.V_drew)); exact HO_1.out) hb); have n2_ := Aside0.mk (Kd.R_below (by (with_reducible repeat (first | apply Kd.R_alloc | apply Kd.R_drewN | apply Kd.R_drew)); exact HO_7.out) hb); have n3_ := Aside0.mk (Kd.V_below (by (with_reducible repeat (first | apply Kd.V_alloc | apply Kd.V_drewN | apply Kd.V_drew)); exact HO627.out) hb); have n4_ := Aside0.mk (Kd.V_lower (Kd.V_mono (ok' := fun k_ => ((P0_ k_ ∨ P1_ k_) ∨ w.heap.size ≤ k_) ∧ some k_ ≠ (.slice (some ad624) x7_1.length co5 : Value).ownBlock) ho0 (fun k_ hk_ => ⟨Or.elim hk_ (fun hs_ => hs_.1) (fun hn_ => (.inr (Nat.le_trans (below_size (by repeat (first | (with_reducible first | exact HB.out | apply below_alloc | apply pw_below_drewN | apply below_drew1) | exact HB.out))) hn_))), Or.elim hk_ (fun hs_ => hs_.2) (fun hn_ => (Kd.fresh' (Kd.R_lt (by (with_reducible repeat (first | apply Kd.R_alloc | apply Kd.R_drewN | apply Kd.R_drew)); exact HO_7.out)) k_ hn_))⟩)) (below_size (by repeat (first | (with_reducible first | exact HB.out | apply below_alloc | apply pw_below_drewN | apply below_drew1) | exact HB.out)))); have n5_ := Aside0.mk (below_step (by repeat (first | (with_reducible first | exact HB.out | apply below_alloc | apply pw_below_drewN | apply below_drew1) | exact HB.out)) hb); clear HO_0; clear HO_1; clear HO_7; clear HO627; clear HB; have HO_0 := n0_; have HO_1 := n1_; have HO_7 := n2_; have HO627 := n3_; have HO630 := n4_; have HB := n5_; clear n0_ n1_ n2_ n3_ n4_ n5_; (try clear hb); (try clear hb2); (try clear hk); (try clear hi); (try clear ho0); obtain ⟨Ao16, co16, eo16⟩ := Kd.V_slice HO627.out; subst eo16; obtain ⟨Ao17, co17, eo17⟩ := Kd.V_slice HO630.out; subst eo17) | (go_at_call 59; (with_reducible refine (cordonref11_Order.calls k2 _ _ t625 _ _ t628 _ _ l2 t631 _ ?side1 ?side2 ?side3 ?side4 ?side5 ?side6 A12.out).mono ?_); (case side1 => repeat (first | exact (Kd.V_reads' HO627.out).2.2 | (with_reducible refine Kd.C_alloc ?_ _) | (with_reducible refine Kd.C_drewN ?_ _) | (with_reducible refine Kd.C_drew ?_))); (case side2 => exact (Kd.V_reads' HO627.out).2.1); (case side3 => repeat (first | exact (Kd.V_reads' HO630.out).2.2 | (with_reducible refine Kd.C_alloc ?_ _) | (with_reducible refine Kd.C_drewN ?_ _) | (with_reducible refine Kd.C_drew ?_))); (case side4 => exact (Kd.V_reads' HO630.out).2.1); (case side5 => repeat (first | exact (Kd.C_below HR2.out HB.out) | (with_reducible refine Kd.C_alloc ?_ _) | (with_reducible refine Kd.C_drewN ?_ _) | (with_reducible refine Kd.C_drew ?_))); (case side6 => exact HC2.out); rintro e w18 ⟨rfl, hb⟩; have n0_ := Aside0.mk (Kd.V_below (by (with_reducible repeat (first | apply Kd.V_alloc | apply Kd.V_drewN | apply Kd.V_drew)); exact HO_0.out) hb); have n1_ := Aside0.mk (Kd.V_below (by (with_reducible repeat (first | apply Kd.V_alloc | apply Kd.V_drewN | apply Kd.V_drew)); exact HO_1.out) hb); have n2_ := Aside0.mk (Kd.R_below (by (with_reducible repeat (first | apply Kd.R_alloc | apply Kd.R_drewN | apply Kd.R_drew)); exact HO_7.out) hb); have n3_ := Aside0.mk (Kd.V_below (by (with_reducible repeat (first | apply Kd.V_alloc | apply Kd.V_drewN | apply Kd.V_drew)); exact HO627.out) hb); have n4_ := Aside0.mk (Kd.V_below (by (with_reducible repeat (first | apply Kd.V_alloc | apply Kd.V_drewN | apply Kd.V_drew)); exact HO630.out) hb); have n5_ := Aside0.mk (below_step (by repeat (first | (with_reducible first | exact HB.out | apply below_alloc | apply pw_below_drewN | apply below_drew1) | exact HB.out)) hb); clear HO_0; clear HO_1; clear HO_7; clear HO627; clear HO630; clear HB; have HO_0 := n0_; have HO_1 := n1_; have HO_7 := n2_; have HO627 := n3_; have HO630 := n4_; have HB := n5_; clear n0_ n1_ n2_ n3_ n4_ n5_; (try clear hb); (try clear hb2); (try clear hk); (try clear hi)))
                    go_roundg k2
                    case measure => have := HK1.out; have := HK2.out; omega
                    case rel => exact ⟨(ji7), (by first | rfl | (simp; done) | (simp only [← hji7] <;> (first | rfl | simp)) | (simp [*]; done)), H', ⟨by have := HK1.out; have := HK2.out; omega⟩, ⟨by (with_reducible repeat (first | apply Kd.V_alloc | apply Kd.V_drewN | apply Kd.V_drew)); exact HO_0.out⟩, ⟨by (with_reducible repeat (first | apply Kd.V_alloc | apply Kd.V_drewN | apply Kd.V_drew)); exact HO_1.out⟩, ⟨by (with_reducible repeat (first | apply Kd.R_alloc | apply Kd.R_drewN | apply Kd.R_drew)); exact HO_7.out⟩, ⟨by repeat (first | (with_reducible first | exact HB.out | apply below_alloc | apply pw_below_drewN | apply below_drew1) | exact HB.out)⟩⟩
                  · rw [if_neg c13] at H
                    have c13b0 : decide (0 < t631) = false := decide_eq_false c13
                    clear c13
                    obtain ⟨y632, hy632⟩ : ∃ y_ : List Int, y_ = (([] : List Int)) := ⟨_, rfl⟩
                    replace H : (if 0 ≤ x9_2 then (if x9_2 ≤ (x7_1.length : Int) then ((some (x7_1.take (x9_2 : Int).toNat : List Int)).bind fun y635 => (if y632.length + y635.length < 17592186044416 then ((some (y632 ++ y635 : List Int)).bind fun y640 => ((some (([x8_1] : List Int) : List Int)).bind fun y643 => (if y640.length + y643.length < 17592186044416 then ((some (y640 ++ y643 : List Int)).bind fun y646 => ((some (x7_1.drop (x9_2 : Int).toNat : List Int)).bind fun y649 => (if y646.length + y649.length < 17592186044416 then (cordonref11_Sort.l0 k2 l0 l1 l2 (y646 ++ y649) (wrap64 (x8_1 + 1))) else (none)))) else (none)))) else (none))) else (none)) else (none)) = some r := by first | (rw [hy632]; with_reducible exact H) | (have H2_ := (Option.bind_some _ _).symm.trans H; rw [hy632]; with_reducible exact H2_) | (have H2_ := (Option.bind_some _ _).symm.trans H; with_reducible exact H2_) | with_reducible exact H | (rw [hy632]; exact H) | exact H
                    have Ny632 := Aside0.mk hy632
                    clear hy632
                    by_cases c19 : 0 ≤ x9_2
                    · rw [if_pos c19] at H
                      have c19b0 := eq_true c19
                      have c19b1 : decide (0 ≤ x9_2) = true := decide_eq_true c19
                      clear c19
                      by_cases c20 : x9_2 ≤ (x7_1.length : Int)
                      · rw [if_pos c20] at H
                        have c20b0 := eq_true c20
                        have c20b1 : decide (x9_2 ≤ (x7_1.length : Int)) = true := decide_eq_true c20
                        clear c20
                        obtain ⟨y635, hy635⟩ : ∃ y_ : List Int, y_ = (x7_1.take (x9_2 : Int).toNat) := ⟨_, rfl⟩
                        replace H : (if y632.length + y635.length < 17592186044416 then ((some (y632 ++ y635 : List Int)).bind fun y640 => ((some (([x8_1] : List Int) : List Int)).bind fun y643 => (if y640.length + y643.length < 17592186044416 then ((some (y640 ++ y643 : List Int)).bind fun y646 => ((some (x7_1.drop (x9_2 : Int).toNat : List Int)).bind fun y649 => (if y646.length + y649.length < 17592186044416 then (cordonref11_Sort.l0 k2 l0 l1 l2 (y646 ++ y649) (wrap64 (x8_1 + 1))) else (none)))) else (none)))) else (none)) = some r := by first | (rw [hy635]; with_reducible exact H) | (have H2_ := (Option.bind_some _ _).symm.trans H; rw [hy635]; with_reducible exact H2_) | (have H2_ := (Option.bind_some _ _).symm.trans H; with_reducible exact H2_) | with_reducible exact H | (rw [hy635]; exact H) | exact H
                        have Ny635 := Aside0.mk hy635
                        clear hy635
                        by_cases c21 : y632.length + y635.length < 17592186044416
                        · rw [if_pos c21] at H
                          have LMc21 := Aside0.mk c21
                          clear c21
                          obtain ⟨y640, hy640⟩ : ∃ y_ : List Int, y_ = (y632 ++ y635) := ⟨_, rfl⟩
                          replace H : ((some (([x8_1] : List Int) : List Int)).bind fun y643 => (if y640.length + y643.length < 17592186044416 then ((some (y640 ++ y643 : List Int)).bind fun y646 => ((some (x7_1.drop (x9_2 : Int).toNat : List Int)).bind fun y649 => (if y646.length + y649.length < 17592186044416 then (cordonref11_Sort.l0 k2 l0 l1 l2 (y646 ++ y649) (wrap64 (x8_1 + 1))) else (none)))) else (none))) = some r := by first | (rw [hy640]; with_reducible exact H) | (have H2_ := (Option.bind_some _ _).symm.trans H; rw [hy640]; with_reducible exact H2_) | (have H2_ := (Option.bind_some _ _).symm.trans H; with_reducible exact H2_) | with_reducible exact H | (rw [hy640]; exact H) | exact H
                          have Ny640 := Aside0.mk hy640
                          clear hy640
                          obtain ⟨y643, hy643⟩ : ∃ y_ : List Int, y_ = (([x8_1] : List Int)) := ⟨_, rfl⟩
                          replace H : (if y640.length + y643.length < 17592186044416 then ((some (y640 ++ y643 : List Int)).bind fun y646 => ((some (x7_1.drop (x9_2 : Int).toNat : List Int)).bind fun y649 => (if y646.length + y649.length < 17592186044416 then (cordonref11_Sort.l0 k2 l0 l1 l2 (y646 ++ y649) (wrap64 (x8_1 + 1))) else (none)))) else (none)) = some r := by first | (rw [hy643]; with_reducible exact H) | (have H2_ := (Option.bind_some _ _).symm.trans H; rw [hy643]; with_reducible exact H2_) | (have H2_ := (Option.bind_some _ _).symm.trans H; with_reducible exact H2_) | with_reducible exact H | (rw [hy643]; exact H) | exact H
                          have Ny643 := Aside0.mk hy643
                          clear hy643
                          by_cases c22 : y640.length + y643.length < 17592186044416
                          · rw [if_pos c22] at H
                            have LMc22 := Aside0.mk c22
                            clear c22
                            obtain ⟨y646, hy646⟩ : ∃ y_ : List Int, y_ = (y640 ++ y643) := ⟨_, rfl⟩
                            replace H : ((some (x7_1.drop (x9_2 : Int).toNat : List Int)).bind fun y649 => (if y646.length + y649.length < 17592186044416 then (cordonref11_Sort.l0 k2 l0 l1 l2 (y646 ++ y649) (wrap64 (x8_1 + 1))) else (none))) = some r := by first | (rw [hy646]; with_reducible exact H) | (have H2_ := (Option.bind_some _ _).symm.trans H; rw [hy646]; with_reducible exact H2_) | (have H2_ := (Option.bind_some _ _).symm.trans H; with_reducible exact H2_) | with_reducible exact H | (rw [hy646]; exact H) | exact H
                            have Ny646 := Aside0.mk hy646
                            clear hy646
                            have c23b0 := eq_true (of_decide_eq_true (by first | (with_reducible assumption) | assumption) : 0 ≤ x9_2)
                            have c24b0 := eq_true (of_decide_eq_true (by first | (with_reducible assumption) | assumption) : x9_2 ≤ (x7_1.length : Int))
                            obtain ⟨y649, hy649⟩ : ∃ y_ : List Int, y_ = (x7_1.drop (x9_2 : Int).toNat) := ⟨_, rfl⟩
                            replace H : (if y646.length + y649.length < 17592186044416 then (cordonref11_Sort.l0 k2 l0 l1 l2 (y646 ++ y649) (wrap64 (x8_1 + 1))) else (none)) = some r := by first | (rw [hy649]; with_reducible exact H) | (have H2_ := (Option.bind_some _ _).symm.trans H; rw [hy649]; with_reducible exact H2_) | (have H2_ := (Option.bind_some _ _).symm.trans H; with_reducible exact H2_) | with_reducible exact H | (rw [hy649]; exact H) | exact H
                            have Ny649 := Aside0.mk hy649
                            clear hy649
                            by_cases c25 : y646.length + y649.length < 17592186044416
                            · rw [if_pos c25] at H
                              have LMc25 := Aside0.mk c25
                              clear c25
                              obtain ⟨y654, hy654⟩ : ∃ y_ : List Int, y_ = (y646 ++ y649) := ⟨_, rfl⟩
                              replace H : (cordonref11_Sort.l0 k2 l0 l1 l2 y654 (wrap64 (x8_1 + 1))) = some r := by first | (rw [hy654]; with_reducible exact H) | (have H2_ := (Option.bind_some _ _).symm.trans H; rw [hy654]; with_reducible exact H2_) | (have H2_ := (Option.bind_some _ _).symm.trans H; with_reducible exact H2_) | with_reducible exact H | (rw [hy654]; exact H) | exact H
                              have Ny654 := Aside0.mk hy654
                              clear hy654
                              have H' := Aside0.mk H
                              clear H
                              have p624 : 0 ≤ ((ji7) : Int) := of_decide_eq_true (by first | (with_reducible assumption) | assumption)
                              have q624 : (ji7) < (x7_1.length : Int) := of_decide_eq_true (by first | (with_reducible assumption) | assumption)
                              obtain ⟨ad624, e624, hx624_0⟩ := Kd.at_int (Kd.R_reads' HO_7.out).2.2 (ji7) p624 q624
                              cases e624
                              replace p624 := eq_true p624
                              replace q624 := eq_true q624
                              try go_wp2_with (first | (go_at_call 97; (with_reducible refine (cordonref11_key.calls (fun k_ => (((P0_ k_ ∨ P1_ k_) ∨ w.heap.size ≤ k_) ∧ some k_ ≠ (.slice (some ad624) x7_1.length co5 : Value).ownBlock)) _ _ l1 (rd x7_1 (ji7)) t625 _ ?side1 A10.out).mono ?_); (case side1 => exact HO_1.out); rintro e w26 ⟨v626, rfl, ho0, hb⟩; have n0_ := Aside0.mk (Kd.V_below (by (with_reducible repeat (first | apply Kd.V_alloc | apply Kd.V_drewN | apply Kd.V_drew)); exact HO_0.out) hb); have n1_ := Aside0.mk (Kd.V_below (by (with_reducible repeat (first | apply Kd.V_alloc | apply Kd.V_drewN | apply Kd.V_drew)); exact HO_1.out) hb); have n2_ := Aside0.mk (Kd.R_below (by (with_reducible repeat (first | apply Kd.R_alloc | apply Kd.R_drewN | apply Kd.R_drew)); exact HO_7.out) hb); have n3_ := Aside0.mk (Kd.V_lower (Kd.V_mono (ok' := fun k_ => ((P0_ k_ ∨ P1_ k_) ∨ w.heap.size ≤ k_) ∧ some k_ ≠ (.slice (some ad624) x7_1.length co5 : Value).ownBlock) ho0 (fun k_ hk_ => ⟨Or.elim hk_ (fun hs_ => hs_.1) (fun hn_ => (.inr (Nat.le_trans (below_size (by repeat (first | (with_reducible first | exact HB.out | apply below_alloc | apply pw_below_drewN | apply below_drew1) | exact HB.out))) hn_))), Or.elim hk_ (fun hs_ => hs_.2) (fun hn_ => (Kd.fresh' (Kd.R_lt (by (with_reducible repeat (first | apply Kd.R_alloc | apply Kd.R_drewN | apply Kd.R_drew)); exact HO_7.out)) k_ hn_))⟩)) (below_size (by repeat (first | (with_reducible first | exact HB.out | apply below_alloc | apply pw_below_drewN | apply below_drew1) | exact HB.out)))); have n4_ := Aside0.mk (below_step (by repeat (first | (with_reducible first | exact HB.out | apply below_alloc | apply pw_below_drewN | apply below_drew1) | exact HB.out)) hb); clear HO_0; clear HO_1; clear HO_7; clear HB; have HO_0 := n0_; have HO_1 := n1_; have HO_7 := n2_; have HO627 := n3_; have HB := n4_; clear n0_ n1_ n2_ n3_ n4_; (try clear hb); (try clear hb2); (try clear hk); (try clear hi); (try clear ho0)) | (go_at_call 97; (with_reducible refine (cordonref11_key.calls (fun k_ => (((P0_ k_ ∨ P1_ k_) ∨ w.heap.size ≤ k_) ∧ some k_ ≠ (.slice (some ad624) x7_1.length co5 : Value).ownBlock)) _ _ l1 x8_1 t628 _ ?side1 A11.out).mono ?_); (case side1 => exact HO_1.out); rintro e w27 ⟨v629, rfl, ho0, hb⟩; have n0_ := Aside0.mk (Kd.V_below (by (with_reducible repeat (first | apply Kd.V_alloc | apply Kd.V_drewN | apply Kd.V_drew)); exact HO_0.out) hb); have n1_ := Aside0.mk (Kd.V_below (by (with_reducible repeat (first | apply Kd.V_alloc | apply Kd.V_drewN | apply Kd.V_drew)); exact HO_1.out) hb); have n2_ := Aside0.mk (Kd.R_below (by (with_reducible repeat (first | apply Kd.R_alloc | apply Kd.R_drewN | apply Kd.R_drew)); exact HO_7.out) hb); have n3_ := Aside0.mk (Kd.V_below (by (with_reducible repeat (first | apply Kd.V_alloc | apply Kd.V_drewN | apply Kd.V_drew)); exact HO627.out) hb); have n4_ := Aside0.mk (Kd.V_lower (Kd.V_mono (ok' := fun k_ => ((P0_ k_ ∨ P1_ k_) ∨ w.heap.size ≤ k_) ∧ some k_ ≠ (.slice (some ad624) x7_1.length co5 : Value).ownBlock) ho0 (fun k_ hk_ => ⟨Or.elim hk_ (fun hs_ => hs_.1) (fun hn_ => (.inr (Nat.le_trans (below_size (by repeat (first | (with_reducible first | exact HB.out | apply below_alloc | apply pw_below_drewN | apply below_drew1) | exact HB.out))) hn_))), Or.elim hk_ (fun hs_ => hs_.2) (fun hn_ => (Kd.fresh' (Kd.R_lt (by (with_reducible repeat (first | apply Kd.R_alloc | apply Kd.R_drewN | apply Kd.R_drew)); exact HO_7.out)) k_ hn_))⟩)) (below_size (by repeat (first | (with_reducible first | exact HB.out | apply below_alloc | apply pw_below_drewN | apply below_drew1) | exact HB.out)))); have n5_ := Aside0.mk (below_step (by repeat (first | (with_reducible first | exact HB.out | apply below_alloc | apply pw_below_drewN | apply below_drew1) | exact HB.out)) hb); clear HO_0; clear HO_1; clear HO_7; clear HO627; clear HB; have HO_0 := n0_; have HO_1 := n1_; have HO_7 := n2_; have HO627 := n3_; have HO630 := n4_; have HB := n5_; clear n0_ n1_ n2_ n3_ n4_ n5_; (try clear hb); (try clear hb2); (try clear hk); (try clear hi); (try clear ho0); obtain ⟨Ao28, co28, eo28⟩ := Kd.V_slice HO627.out; subst eo28; obtain ⟨Ao29, co29, eo29⟩ := Kd.V_slice HO630.out; subst eo29) | (go_at_call 59; (with_reducible refine (cordonref11_Order.calls k2 _ _ t625 _ _ t628 _ _ l2 t631 _ ?side1 ?side2 ?side3 ?side4 ?side5 ?side6 A12.out).mono ?_); (case side1 => repeat (first | exact (Kd.V_reads' HO627.out).2.2 | (with_reducible refine Kd.C_alloc ?_ _) | (with_reducible refine Kd.C_drewN ?_ _) | (with_reducible refine Kd.C_drew ?_))); (case side2 => exact (Kd.V_reads' HO627.out).2.1); (case side3 => repeat (first | exact (Kd.V_reads' HO630.out).2.2 | (with_reducible refine Kd.C_alloc ?_ _) | (with_reducible refine Kd.C_drewN ?_ _) | (with_reducible refine Kd.C_drew ?_))); (case side4 => exact (Kd.V_reads' HO630.out).2.1); (case side5 => repeat (first | exact (Kd.C_below HR2.out HB.out) | (with_reducible refine Kd.C_alloc ?_ _) | (with_reducible refine Kd.C_drewN ?_ _) | (with_reducible refine Kd.C_drew ?_))); (case side6 => exact HC2.out); rintro e w30 ⟨rfl, hb⟩; have n0_ := Aside0.mk (Kd.V_below (by (with_reducible repeat (first | apply Kd.V_alloc | apply Kd.V_drewN | apply Kd.V_drew)); exact HO_0.out) hb); have n1_ := Aside0.mk (Kd.V_below (by (with_reducible repeat (first | apply Kd.V_alloc | apply Kd.V_drewN | apply Kd.V_drew)); exact HO_1.out) hb); have n2_ := Aside0.mk (Kd.R_below (by (with_reducible repeat (first | apply Kd.R_alloc | apply Kd.R_drewN | apply Kd.R_drew)); exact HO_7.out) hb); have n3_ := Aside0.mk (Kd.V_below (by (with_reducible repeat (first | apply Kd.V_alloc | apply Kd.V_drewN | apply Kd.V_drew)); exact HO627.out) hb); have n4_ := Aside0.mk (Kd.V_below (by (with_reducible repeat (first | apply Kd.V_alloc | apply Kd.V_drewN | apply Kd.V_drew)); exact HO630.out) hb); have n5_ := Aside0.mk (below_step (by repeat (first | (with_reducible first | exact HB.out | apply below_alloc | apply pw_below_drewN | apply below_drew1) | exact HB.out)) hb); clear HO_0; clear HO_1; clear HO_7; clear HO627; clear HO630; clear HB; have HO_0 := n0_; have HO_1 := n1_; have HO_7 := n2_; have HO627 := n3_; have HO630 := n4_; have HB := n5_; clear n0_ n1_ n2_ n3_ n4_ n5_; (try clear hb); (try clear hb2); (try clear hk); (try clear hi)))
                              have n0_ := Aside0.mk (Kd.V_drew HO_0.out)
                              have n1_ := Aside0.mk (Kd.V_drew HO_1.out)
                              have n2_ := Aside0.mk (Kd.R_drew HO_7.out)
                              have n3_ := Aside0.mk (Kd.V_drew HO627.out)
                              have n4_ := Aside0.mk (Kd.V_drew HO630.out)
                              have n5_ := Aside0.mk (below_drew1 HB.out)
                              clear HO_0
                              clear HO_1
                              clear HO_7
                              clear HO627
                              clear HO630
                              clear HB
                              have HO_0 := n0_
                              have HO_1 := n1_
                              have HO_7 := n2_
                              have HO627 := n3_
                              have HO630 := n4_
                              have HB := n5_
                              clear n0_ n1_ n2_ n3_ n4_ n5_
                              have q32 : (x9_2 : Int) ≤ ((x7_1.length : Int) : Int) := of_decide_eq_true (by first | (with_reducible assumption) | assumption)
                              obtain ⟨i032, hi032, _, hsz32, _⟩ := info_parts info3
                              have hroom32 : x7_1.length ≤ co5 := (Kd.R_reads' HO_7.out).2.1
                              have hC32 : Kd.F (Kd.int .i64) _ _ (some ad624) x7_1.length x7_1 := (Kd.V_at (base := w.heap.size) (Kd.V_mono (ok' := (fun k_ => ((P0_ k_ ∨ P1_ k_) ∨ w.heap.size ≤ k_))) (Kd.R_V HO_7.out) (fun k_ hk => (.inr (hk))))).2.2
                              have hcut32 := cut_to (P := Try.prog) 23 3 .i64 Try.underlying23 hi032 (some ad624) x7_1.length co5 x9_2 (of_decide_eq_true (by first | (with_reducible assumption) | assumption)) q32 hroom32
                              have hr32 := Kd.F_take (m := (x9_2 : Int).toNat) hC32 (by omega)
                              have hy32 : y635.length = (x9_2 : Int).toNat := (by rw [Ny635.out, List.length_take]; omega)
                              rw [← Ny635.out] at hr32
                              rw [← hy32] at hcut32
                              have HO639 := Aside0.mk (show Kd.V (Kd.int .i64) 3 _ w.heap.size _ (.slice (some ad624) y635.length co5) y635 from Kd.V_mk (by omega) hr32)
                              have HC639 := Aside0.mk (show y635.length ≤ co5 from by omega)
                              clear hr32 hC32 hroom32 hi032 hsz32
                              have KY32 := Aside0.mk hy32
                              clear hy32
                              replace q32 := eq_true q32
                              have q33 : (x9_2 : Int) ≤ ((x7_1.length : Int) : Int) := of_decide_eq_true (by first | (with_reducible assumption) | assumption)
                              obtain ⟨i033, hi033, _, hsz33, _⟩ := info_parts info3
                              have hroom33 : x7_1.length ≤ co5 := (Kd.R_reads' HO_7.out).2.1
                              have hC33 : Kd.F (Kd.int .i64) _ _ (some ad624) x7_1.length x7_1 := (Kd.V_at (base := w.heap.size) (Kd.V_mono (ok' := (fun k_ => ((P0_ k_ ∨ P1_ k_) ∨ w.heap.size ≤ k_))) (Kd.R_V HO_7.out) (fun k_ hk => (.inr (hk))))).2.2
                              have q033 : (0 : Int) ≤ (x9_2 : Int) := of_decide_eq_true (by first | (with_reducible assumption) | assumption)
                              have hcut33 := cut_from (P := Try.prog) 23 3 .i64 Try.underlying23 hi033 1 hsz33 (some ad624) x7_1.length co5 x9_2 q033 q33
                              have hr33 := Kd.F_cut (m := (x9_2 : Int).toNat) (c := co5) hC33 (by omega) hroom33
                              obtain ⟨A33, hA33⟩ : ∃ A1, A1 = (if co5 = (x9_2 : Int).toNat then (some ad624) else ((some ad624) : Option Addr).map (·.add ((x9_2 : Int).toNat * 1))) := ⟨_, rfl⟩
                              obtain ⟨c33, hc33⟩ : ∃ c1, c1 = co5 - (x9_2 : Int).toNat := ⟨_, rfl⟩
                              have hy33 : y649.length = x7_1.length - (x9_2 : Int).toNat := (by rw [Ny649.out, List.length_drop] <;> omega)
                              rw [show (x7_1).drop (x9_2 : Int).toNat = y649 from Ny649.out.symm] at hr33
                              replace hr33 : Kd.F (Kd.int .i64) _ _ A33 y649.length y649 := (by rw [hA33]; exact hr33)
                              rw [← hy33, ← hA33, ← hc33] at hcut33
                              have HO653 := Aside0.mk (show Kd.V (Kd.int .i64) 3 _ w.heap.size _ (.slice A33 y649.length c33) y649 from Kd.V_mk (by rw [hy33, hc33]; exact Nat.sub_le_sub_right hroom33 _) hr33)
                              have HC653 := Aside0.mk (show y649.length ≤ c33 from by rw [hy33, hc33]; exact Nat.sub_le_sub_right hroom33 _)
                              clear hr33 hC33 hroom33 hi033 hsz33 hc33
                              have KY33 := Aside0.mk hy33
                              have KA33 := Aside0.mk hA33
                              clear hy33 hA33
                              replace q33 := eq_true q33
                              refine start_ (n := 13) (S := fun w' => True) (ds := []) #[false, false, false, false, false, false, false, false, false, false, false, false, false] (by kernel_rfl) rfl rfl trivial (fun hHeld => ?_); refine with_tabW cordonref11_Sort.tab8 cordonref11_Sort.bits8 (fun HT_ HW_ => ?_)
                              generalize w30.drew = w31 at HO_0 HO_1 HO_7 HO627 HO630 HB HO639 HO653 hHeld ⊢
                              refine pure_ (i := 1) (N := some 40) (v := ?_) (a' := ?_) #[false, true, false, false, false, false, false, false, false, false, false, false, false] rfl rfl (any_of HT_.out (by kernel_rfl)) (fun _ _ _ h => h) (Or.inl ⟨by rfl, ?_⟩) ?_ ?_
                              rotate_left
                              · intro w'
                                go_simp
                                with_reducible rfl
                              rotate_left
                              · simp only [Act.put, List.setIfInBounds_toArray, List.set_cons_zero, List.set_cons_succ, i64_w, i32_w]
                                rfl
                              refine pure_ (i := 2) (N := some 41) (v := ?_) (a' := ?_) #[false, true, true, false, false, false, false, false, false, false, false, false, false] rfl rfl (any_of HT_.out (by kernel_rfl)) (fun _ _ _ h => h) (Or.inl ⟨by rfl, ?_⟩) ?_ ?_
                              rotate_left
                              · intro w'
                                go_simp
                                with_reducible rfl
                              rotate_left
                              · simp only [Act.put, List.setIfInBounds_toArray, List.set_cons_zero, List.set_cons_succ, i64_w, i32_w]
                                rfl
                              refine pure_ (i := 3) (N := some 42) (v := ?_) (a' := ?_) #[false, true, true, true, false, false, false, false, false, false, false, false, false] rfl rfl (any_of HT_.out (by kernel_rfl)) (fun _ _ _ h => h) (Or.inl ⟨by rfl, ?_⟩) ?_ ?_
                              rotate_left
                              · intro w'
                                go_simp
                                with_reducible rfl
                              rotate_left
                              · simp only [Act.put, List.setIfInBounds_toArray, List.set_cons_zero, List.set_cons_succ, i64_w, i32_w]
                                rfl
                              refine pure_ (i := 5) (N := some 44) (v := ?_) (a' := ?_) #[false, true, true, true, false, true, false, false, false, false, false, false, false] rfl rfl (any_of HT_.out (by kernel_rfl)) (fun _ _ _ h => h) (Or.inl ⟨by rfl, ?_⟩) ?_ ?_
                              rotate_left
                              · intro w'
                                go_simp
                                with_reducible rfl
                              rotate_left
                              · simp only [Act.put, List.setIfInBounds_toArray, List.set_cons_zero, List.set_cons_succ, i64_w, i32_w]
                                rfl
                              refine pure_ (i := 8) (N := some 47) (v := ?_) (a' := ?_) #[false, true, true, true, false, true, false, false, true, false, false, false, false] rfl rfl (any_of HT_.out (by kernel_rfl)) (fun _ _ _ h => h) (Or.inl ⟨by rfl, ?_⟩) ?_ ?_
                              rotate_left
                              · intro w'
                                go_simp
                                with_reducible rfl
                              rotate_left
                              · simp only [Act.put, List.setIfInBounds_toArray, List.set_cons_zero, List.set_cons_succ, i64_w, i32_w]
                                rfl
                              refine pure_ (i := 9) (N := some 48) (v := ?_) (a' := ?_) #[false, true, true, true, false, true, false, false, true, true, false, false, false] rfl rfl (any_of HT_.out (by kernel_rfl)) (fun _ _ _ h => h) (Or.inl ⟨by rfl, ?_⟩) ?_ ?_
                              rotate_left
                              · intro w'
                                go_simp
                                with_reducible rfl
                              rotate_left
                              · simp only [Act.put, List.setIfInBounds_toArray, List.set_cons_zero, List.set_cons_succ, i64_w, i32_w]
                                rfl
                              refine pure_ (i := 10) (N := some 49) (v := ?_) (a' := ?_) #[false, true, true, true, false, true, false, false, true, true, true, false, false] rfl rfl (any_of HT_.out (by kernel_rfl)) (fun _ _ _ h => h) (Or.inl ⟨by rfl, ?_⟩) ?_ ?_
                              rotate_left
                              · intro w'
                                go_simp
                                with_reducible rfl
                              rotate_left
                              · simp only [Act.put, List.setIfInBounds_toArray, List.set_cons_zero, List.set_cons_succ, i64_w, i32_w]
                                rfl
                              refine join_ (σ := Value × Value × Value) 3 #[true, true, true, true, true, true, true, false, true, true, true, false, false] (fun s_ => [(39, s_.1), (43, s_.2.1), (45, s_.2.2)]) (fun s_ w' => (Kd.V k33 33 w' w.heap.size (fun k_ => ((P0_ k_ ∨ P1_ k_) ∨ w.heap.size ≤ k_) ∧ some k_ ≠ (s_.2.1 : Value).ownBlock ∧ some k_ ≠ (s_.2.2 : Value).ownBlock ∧ some k_ ≠ (.slice (some ad624) x7_1.length co5 : Value).ownBlock) (.slice Ao28 t625.length co28) t625) ∧ (Kd.V k33 33 w' w.heap.size (fun k_ => ((P0_ k_ ∨ P1_ k_) ∨ w.heap.size ≤ k_) ∧ some k_ ≠ (s_.2.1 : Value).ownBlock ∧ some k_ ≠ (s_.2.2 : Value).ownBlock ∧ some k_ ≠ (.slice (some ad624) x7_1.length co5 : Value).ownBlock) (.slice Ao29 t628.length co29) t628) ∧ (Kd.V (Kd.int .i64) 3 w' w.heap.size (fun k_ => ((P0_ k_ ∨ P1_ k_) ∨ w.heap.size ≤ k_) ∧ some k_ ≠ (s_.2.1 : Value).ownBlock ∧ some k_ ≠ (s_.2.2 : Value).ownBlock) (.slice (some ad624) y635.length co5) y635) ∧ (Kd.R (Kd.int .i64) 3 w' w.heap.size (fun k_ => (w.heap.size ≤ k_) ∧ some k_ ≠ (s_.2.2 : Value).ownBlock ∧ some k_ ≠ (.slice (some ad624) x7_1.length co5 : Value).ownBlock) s_.2.1 y640) ∧ (Kd.R (Kd.int .i64) 3 w' w.heap.size (fun k_ => (w.heap.size ≤ k_) ∧ some k_ ≠ (s_.2.1 : Value).ownBlock ∧ some k_ ≠ (.slice (some ad624) x7_1.length co5 : Value).ownBlock) s_.2.2 y643) ∧ (Kd.V (Kd.int .i64) 3 w' w.heap.size (fun k_ => ((P0_ k_ ∨ P1_ k_) ∨ w.heap.size ≤ k_) ∧ some k_ ≠ (s_.2.1 : Value).ownBlock ∧ some k_ ≠ (s_.2.2 : Value).ownBlock) (.slice A33 y649.length c33) y649) ∧ (Kd.V (Kd.slice 33 k33) 22 w' w.heap.size (fun k_ => ((P0_ k_ ∨ P1_ k_) ∨ w.heap.size ≤ k_) ∧ some k_ ≠ (s_.2.1 : Value).ownBlock ∧ some k_ ≠ (s_.2.2 : Value).ownBlock ∧ some k_ ≠ (.slice (some ad624) x7_1.length co5 : Value).ownBlock) (.slice A0 l0.length c0) l0) ∧ (Kd.V (Kd.slice 33 k33) 22 w' w.heap.size (fun k_ => ((P0_ k_ ∨ P1_ k_) ∨ w.heap.size ≤ k_) ∧ some k_ ≠ (s_.2.1 : Value).ownBlock ∧ some k_ ≠ (s_.2.2 : Value).ownBlock ∧ some k_ ≠ (.slice (some ad624) x7_1.length co5 : Value).ownBlock) (.slice A1 l1.length c1) l1) ∧ (Kd.R (Kd.int .i64) 3 w' w.heap.size (fun k_ => (w.heap.size ≤ k_) ∧ some k_ ≠ (s_.2.1 : Value).ownBlock ∧ some k_ ≠ (s_.2.2 : Value).ownBlock) (.slice (some ad624) x7_1.length co5) x7_1) ∧ (Below w.heap.size w w')) ?_ ?_
                              rotate_left
                              · intro hCont
                                refine two_ (i := 0) (j := 6) (Ni := some 39) (Nj := some 45) #[true, true, true, true, false, true, false, false, true, true, true, false, false] #[false, true, true, true, false, true, true, false, true, true, true, false, false] rfl rfl rfl rfl (two_of HT_.out (by kernel_rfl)) (by decide) (by decide) (fun K hK => ?_) (fun K hK => ?_)
                                · skip
                                  refine Kd.R_lit_step (Kd.int .i64) _ 3 ?hg (N := 39) ?hd (xs := ([] : List Int)) (inner := []) (ok := fun _ => True) (okp := fun _ => True) ?hr ?hp (fun _ hk => hk) trivial (Below.refl _ _) (Nat.le_refl _) (by simp) ?_; (case hd => rfl); (case hg => rfl); (case hr => first | (go_simp; done) | (go_simp; rfl)); (case hp => exact (Reps.none _ _))
                                  intro v633 w34 ho35 hb hg_ hnew_
                                  clear hg_ hnew_
                                  (first | rw [← Ny632.out] at ho35 | (simp only [Int.reduceToNat] at ho35; rw [← Ny632.out] at ho35))
                                  have n0_ := Aside0.mk (Kd.V_elder' (by (with_reducible repeat (first | apply Kd.V_alloc | apply Kd.V_drewN | apply Kd.V_drew)); exact HO_0.out) (Kd.R_base ho35) hb)
                                  have n1_ := Aside0.mk (Kd.V_elder' (by (with_reducible repeat (first | apply Kd.V_alloc | apply Kd.V_drewN | apply Kd.V_drew)); exact HO_1.out) (Kd.R_base ho35) hb)
                                  have n2_ := Aside0.mk (Kd.R_elder' (by (with_reducible repeat (first | apply Kd.R_alloc | apply Kd.R_drewN | apply Kd.R_drew)); exact HO_7.out) (Kd.R_base ho35) hb)
                                  have n3_ := Aside0.mk (Kd.V_elder' (by (with_reducible repeat (first | apply Kd.V_alloc | apply Kd.V_drewN | apply Kd.V_drew)); exact HO627.out) (Kd.R_base ho35) hb)
                                  have n4_ := Aside0.mk (Kd.V_elder' (by (with_reducible repeat (first | apply Kd.V_alloc | apply Kd.V_drewN | apply Kd.V_drew)); exact HO630.out) (Kd.R_base ho35) hb)
                                  have n5_ := Aside0.mk (Kd.V_elder' (by (with_reducible repeat (first | apply Kd.V_alloc | apply Kd.V_drewN | apply Kd.V_drew)); exact HO639.out) (Kd.R_base ho35) hb)
                                  have n6_ := Aside0.mk (Kd.V_elder' (by (with_reducible repeat (first | apply Kd.V_alloc | apply Kd.V_drewN | apply Kd.V_drew)); exact HO653.out) (Kd.R_base ho35) hb)
                                  have n7_ := Aside0.mk (Kd.R_lower (Kd.R_new' (Kd.R_newM (M := fun k_ => (w.heap.size ≤ k_)) ho35 (below_size (by repeat (first | (with_reducible first | exact HB.out | apply below_alloc | apply pw_below_drewN | apply below_drew1) | exact HB.out))) (fun k_ h_ => h_)) (Kd.R_lt (by (with_reducible repeat (first | apply Kd.R_alloc | apply Kd.R_drewN | apply Kd.R_drew)); exact HO_7.out))) (below_size (by repeat (first | (with_reducible first | exact HB.out | apply below_alloc | apply pw_below_drewN | apply below_drew1) | exact HB.out))))
                                  have n8_ := Aside0.mk (below_step (by repeat (first | (with_reducible first | exact HB.out | apply below_alloc | apply pw_below_drewN | apply below_drew1) | exact HB.out)) hb)
                                  clear HO_0
                                  clear HO_1
                                  clear HO_7
                                  clear HO627
                                  clear HO630
                                  clear HO639
                                  clear HO653
                                  clear HB
                                  have HO_0 := n0_
                                  have HO_1 := n1_
                                  have HO_7 := n2_
                                  have HO627 := n3_
                                  have HO630 := n4_
                                  have HO639 := n5_
                                  have HO653 := n6_
                                  have HO634 := n7_
                                  have HB := n8_
                                  clear n0_ n1_ n2_ n3_ n4_ n5_ n6_ n7_ n8_
                                  clear hb ho35
                                  refine hK.out _ _ trivial (fun hHeld => ?_)
                                  clear hK K
                                  refine norm_ (a' := ?_) ?_ ?_
                                  rotate_left
                                  · show Act.put _ (some 39) _ = _
                                    simp only [Act.put, List.setIfInBounds_toArray, List.set_cons_zero, List.set_cons_succ, i64_w, i32_w]
                                    rfl
                                  refine two_ (i := 4) (j := 6) (Ni := some 43) (Nj := some 45) #[true, true, true, true, true, true, false, false, true, true, true, false, false] #[true, true, true, true, false, true, true, false, true, true, true, false, false] rfl rfl rfl rfl (two_of HT_.out (by kernel_rfl)) (by decide) (by decide) (fun K hK => ?_) (fun K hK => ?_)
                                  · skip
                                    refine Kd.R_append_rows_step (Kd.int .i64) (w0 := w) w.heap.size (by rfl) (.tmp 39) (.tmp 42) 23 3 (.int .i64 0) 8 rfl Try.underlying23 info3 rfl (by decide) (by omega) v633 y632 y635 _ _ _ (fun k_ => (w.heap.size ≤ k_) ∧ some k_ ≠ (.slice (some ad624) x7_1.length co5 : Value).ownBlock) (fun _ => False) rfl rfl ?aO ?aR (fun _ _ h => h) (fun _ h => h.elim) ?aF ?aB ?aS ?aL ?_
                                    (case aR => repeat (first | exact (Kd.V_reads' HO639.out).2.2 | (with_reducible refine Kd.C_alloc ?_ _) | (with_reducible refine Kd.C_drewN ?_ _) | (with_reducible refine Kd.C_drew ?_)))
                                    (case aB => exact (by repeat (first | (with_reducible first | exact HB.out | apply below_alloc | apply pw_below_drewN | apply below_drew1) | exact HB.out)))
                                    (case aF => exact (fun k_ hk => ⟨(Nat.le_trans (below_size (by repeat (first | (with_reducible first | exact HB.out | apply below_alloc | apply pw_below_drewN | apply below_drew1) | exact HB.out))) hk), Kd.fresh' (Kd.R_lt (by (with_reducible repeat (first | apply Kd.R_alloc | apply Kd.R_drewN | apply Kd.R_drew)); exact HO_7.out)) k_ hk⟩))
                                    (case aO => exact (by (with_reducible repeat (first | apply Kd.R_alloc | apply Kd.R_drewN | apply Kd.R_drew)); exact Kd.R_mono HO634.out (fun _ hk => ⟨hk.1.1, hk.2⟩)))
                                    (case aS => exact (below_size (by repeat (first | (with_reducible first | exact HB.out | apply below_alloc | apply pw_below_drewN | apply below_drew1) | exact HB.out))))
                                    (case aL => have := LMc21.out; omega)
                                    intro v641 w36 ho hb hg hat
                                    rw [← Ny640.out] at ho
                                    have n0_ := Aside0.mk (Kd.V_afterv (ok := (fun k_ => ((P0_ k_ ∨ P1_ k_) ∨ w.heap.size ≤ k_) ∧ some k_ ≠ (.slice (some ad624) x7_1.length co5 : Value).ownBlock)) (by (with_reducible repeat (first | apply Kd.V_alloc | apply Kd.V_drewN | apply Kd.V_drew)); exact HO_0.out) hg hat)
                                    have n1_ := Aside0.mk (Kd.V_afterv (ok := (fun k_ => ((P0_ k_ ∨ P1_ k_) ∨ w.heap.size ≤ k_) ∧ some k_ ≠ (.slice (some ad624) x7_1.length co5 : Value).ownBlock)) (by (with_reducible repeat (first | apply Kd.V_alloc | apply Kd.V_drewN | apply Kd.V_drew)); exact HO_1.out) hg hat)
                                    have n2_ := Aside0.mk (Kd.R_after (ok := (fun k_ => (w.heap.size ≤ k_))) (by (with_reducible repeat (first | apply Kd.R_alloc | apply Kd.R_drewN | apply Kd.R_drew)); exact HO_7.out) hg hat)
                                    have n3_ := Aside0.mk (Kd.V_afterv (ok := (fun k_ => ((P0_ k_ ∨ P1_ k_) ∨ w.heap.size ≤ k_) ∧ some k_ ≠ (.slice (some ad624) x7_1.length co5 : Value).ownBlock)) (by (with_reducible repeat (first | apply Kd.V_alloc | apply Kd.V_drewN | apply Kd.V_drew)); exact HO627.out) hg hat)
                                    have n4_ := Aside0.mk (Kd.V_afterv (ok := (fun k_ => ((P0_ k_ ∨ P1_ k_) ∨ w.heap.size ≤ k_) ∧ some k_ ≠ (.slice (some ad624) x7_1.length co5 : Value).ownBlock)) (by (with_reducible repeat (first | apply Kd.V_alloc | apply Kd.V_drewN | apply Kd.V_drew)); exact HO630.out) hg hat)
                                    have n5_ := Aside0.mk (Kd.V_afterv (ok := (fun k_ => ((P0_ k_ ∨ P1_ k_) ∨ w.heap.size ≤ k_))) (by (with_reducible repeat (first | apply Kd.V_alloc | apply Kd.V_drewN | apply Kd.V_drew)); exact HO639.out) hg hat)
                                    have n6_ := Aside0.mk (Kd.V_afterv (ok := (fun k_ => ((P0_ k_ ∨ P1_ k_) ∨ w.heap.size ≤ k_))) (by (with_reducible repeat (first | apply Kd.V_alloc | apply Kd.V_drewN | apply Kd.V_drew)); exact HO653.out) hg hat)
                                    have n7_ := Aside0.mk (hb)
                                    have n8_ := Aside0.mk (ho)
                                    clear HO_0
                                    clear HO_1
                                    clear HO_7
                                    clear HO627
                                    clear HO630
                                    clear HO639
                                    clear HO653
                                    clear HB
                                    clear HO634
                                    have HO_0 := n0_
                                    have HO_1 := n1_
                                    have HO_7 := n2_
                                    have HO627 := n3_
                                    have HO630 := n4_
                                    have HO639 := n5_
                                    have HO653 := n6_
                                    have HB := n7_
                                    have HO642 := n8_
                                    clear n0_ n1_ n2_ n3_ n4_ n5_ n6_ n7_ n8_
                                    clear ho hb hg hat
                                    refine hK.out _ _ trivial (fun hHeld => ?_)
                                    clear hK K
                                    refine norm_ (a' := ?_) ?_ ?_
                                    rotate_left
                                    · show Act.put _ (some 43) _ = _
                                      simp only [Act.put, List.setIfInBounds_toArray, List.set_cons_zero, List.set_cons_succ, i64_w, i32_w]
                                      rfl
                                    refine one_ (i := 6) (N := some 45) #[true, true, true, true, true, true, true, false, true, true, true, false, false] rfl rfl (one_of HT_.out (by kernel_rfl)) (by decide) (fun K hK => ?_)
                                    refine Kd.R_lit_step (Kd.int .i64) _ 3 ?hg (N := 45) ?hd (xs := ([x8_1] : List Int)) (inner := [.int .i64 x8_1]) (ok := fun _ => True) (okp := fun _ => True) ?hr ?hp (fun _ hk => hk) trivial (Below.refl _ _) (Nat.le_refl _) (by simp) ?_; (case hd => rfl); (case hg => rfl); (case hr => first | (go_simp; done) | (go_simp; rfl)); (case hp => exact (Reps.one (show Kd.M (Kd.int .i64) _ _ _ x8_1 [.int .i64 x8_1] from rfl) (Reps.none _ _)))
                                    intro v644 w37 ho38 hb hg_ hnew_
                                    clear hg_ hnew_
                                    (first | rw [← Ny643.out] at ho38 | (simp only [Int.reduceToNat] at ho38; rw [← Ny643.out] at ho38))
                                    have n0_ := Aside0.mk (Kd.V_elder' (by (with_reducible repeat (first | apply Kd.V_alloc | apply Kd.V_drewN | apply Kd.V_drew)); exact HO_0.out) (Kd.R_base ho38) hb)
                                    have n1_ := Aside0.mk (Kd.V_elder' (by (with_reducible repeat (first | apply Kd.V_alloc | apply Kd.V_drewN | apply Kd.V_drew)); exact HO_1.out) (Kd.R_base ho38) hb)
                                    have n2_ := Aside0.mk (Kd.R_elder' (by (with_reducible repeat (first | apply Kd.R_alloc | apply Kd.R_drewN | apply Kd.R_drew)); exact HO_7.out) (Kd.R_base ho38) hb)
                                    have n3_ := Aside0.mk (Kd.V_elder' (by (with_reducible repeat (first | apply Kd.V_alloc | apply Kd.V_drewN | apply Kd.V_drew)); exact HO627.out) (Kd.R_base ho38) hb)
                                    have n4_ := Aside0.mk (Kd.V_elder' (by (with_reducible repeat (first | apply Kd.V_alloc | apply Kd.V_drewN | apply Kd.V_drew)); exact HO630.out) (Kd.R_base ho38) hb)
                                    have n5_ := Aside0.mk (Kd.V_elder' (by (with_reducible repeat (first | apply Kd.V_alloc | apply Kd.V_drewN | apply Kd.V_drew)); exact HO639.out) (Kd.R_base ho38) hb)
                                    have n6_ := Aside0.mk (Kd.V_elder' (by (with_reducible repeat (first | apply Kd.V_alloc | apply Kd.V_drewN | apply Kd.V_drew)); exact HO653.out) (Kd.R_base ho38) hb)
                                    have n7_ := Aside0.mk (Kd.R_elder' (by (with_reducible repeat (first | apply Kd.R_alloc | apply Kd.R_drewN | apply Kd.R_drew)); exact HO642.out) (Kd.R_base ho38) hb)
                                    have n8_ := Aside0.mk (Kd.R_lower (Kd.R_new' (Kd.R_new' (Kd.R_newM (M := fun k_ => (w.heap.size ≤ k_)) ho38 (below_size (by repeat (first | (with_reducible first | exact HB.out | apply below_alloc | apply pw_below_drewN | apply below_drew1) | exact HB.out))) (fun k_ h_ => h_)) (Kd.R_lt (by (with_reducible repeat (first | apply Kd.R_alloc | apply Kd.R_drewN | apply Kd.R_drew)); exact HO_7.out))) (Kd.R_lt (by (with_reducible repeat (first | apply Kd.R_alloc | apply Kd.R_drewN | apply Kd.R_drew)); exact HO642.out))) (below_size (by repeat (first | (with_reducible first | exact HB.out | apply below_alloc | apply pw_below_drewN | apply below_drew1) | exact HB.out))))
                                    have n9_ := Aside0.mk (below_step (by repeat (first | (with_reducible first | exact HB.out | apply below_alloc | apply pw_below_drewN | apply below_drew1) | exact HB.out)) hb)
                                    clear HO_0
                                    clear HO_1
                                    clear HO_7
                                    clear HO627
                                    clear HO630
                                    clear HO639
                                    clear HO653
                                    clear HO642
                                    clear HB
                                    have HO_0 := n0_
                                    have HO_1 := n1_
                                    have HO_7 := n2_
                                    have HO627 := n3_
                                    have HO630 := n4_
                                    have HO639 := n5_
                                    have HO653 := n6_
                                    have HO642 := n7_
                                    have HO645 := n8_
                                    have HB := n9_
                                    clear n0_ n1_ n2_ n3_ n4_ n5_ n6_ n7_ n8_ n9_
                                    clear hb ho38
                                    refine hK.out _ _ trivial (fun hHeld => ?_)
                                    clear hK K
                                    refine norm_ (a' := ?_) ?_ ?_
                                    rotate_left
                                    · show Act.put _ (some 45) _ = _
                                      simp only [Act.put, List.setIfInBounds_toArray, List.set_cons_zero, List.set_cons_succ, i64_w, i32_w]
                                      rfl
                                    exact norm_ (by simp only [putAll, Act.put, List.setIfInBounds_toArray, List.set_cons_zero, List.set_cons_succ]) (hCont (v633, v641, v644) _ ⟨(by (with_reducible repeat (first | apply Kd.V_alloc | apply Kd.V_drewN | apply Kd.V_drew)); exact Kd.V_mono HO627.out (fun _ hk => ⟨hk.1.1.1, ⟨hk.1.2, ⟨hk.2, hk.1.1.2⟩⟩⟩)), (by (with_reducible repeat (first | apply Kd.V_alloc | apply Kd.V_drewN | apply Kd.V_drew)); exact Kd.V_mono HO630.out (fun _ hk => ⟨hk.1.1.1, ⟨hk.1.2, ⟨hk.2, hk.1.1.2⟩⟩⟩)), (by (with_reducible repeat (first | apply Kd.V_alloc | apply Kd.V_drewN | apply Kd.V_drew)); exact Kd.V_mono HO639.out (fun _ hk => ⟨hk.1.1, ⟨hk.1.2, hk.2⟩⟩)), (by (with_reducible repeat (first | apply Kd.R_alloc | apply Kd.R_drewN | apply Kd.R_drew)); exact Kd.R_mono HO642.out (fun _ hk => ⟨hk.1.1, ⟨hk.2, hk.1.2⟩⟩)), (by (with_reducible repeat (first | apply Kd.R_alloc | apply Kd.R_drewN | apply Kd.R_drew)); exact Kd.R_mono HO645.out (fun _ hk => ⟨hk.1.1.1, ⟨hk.2, hk.1.2⟩⟩)), (by (with_reducible repeat (first | apply Kd.V_alloc | apply Kd.V_drewN | apply Kd.V_drew)); exact Kd.V_mono HO653.out (fun _ hk => ⟨hk.1.1, ⟨hk.1.2, hk.2⟩⟩)), (by (with_reducible repeat (first | apply Kd.V_alloc | apply Kd.V_drewN | apply Kd.V_drew)); exact Kd.V_mono HO_0.out (fun _ hk => ⟨hk.1.1.1, ⟨hk.1.2, ⟨hk.2, hk.1.1.2⟩⟩⟩)), (by (with_reducible repeat (first | apply Kd.V_alloc | apply Kd.V_drewN | apply Kd.V_drew)); exact Kd.V_mono HO_1.out (fun _ hk => ⟨hk.1.1.1, ⟨hk.1.2, ⟨hk.2, hk.1.1.2⟩⟩⟩)), (by (with_reducible repeat (first | apply Kd.R_alloc | apply Kd.R_drewN | apply Kd.R_drew)); exact Kd.R_mono HO_7.out (fun _ hk => ⟨hk.1.1, ⟨hk.1.2, hk.2⟩⟩)), (by repeat (first | (with_reducible first | exact HB.out | apply below_alloc | apply pw_below_drewN | apply below_drew1) | exact HB.out))⟩)
                                  · skip
                                    refine Kd.R_lit_step (Kd.int .i64) _ 3 ?hg (N := 45) ?hd (xs := ([x8_1] : List Int)) (inner := [.int .i64 x8_1]) (ok := fun _ => True) (okp := fun _ => True) ?hr ?hp (fun _ hk => hk) trivial (Below.refl _ _) (Nat.le_refl _) (by simp) ?_; (case hd => rfl); (case hg => rfl); (case hr => first | (go_simp; done) | (go_simp; rfl)); (case hp => exact (Reps.one (show Kd.M (Kd.int .i64) _ _ _ x8_1 [.int .i64 x8_1] from rfl) (Reps.none _ _)))
                                    intro v644 w36 ho37 hb hg_ hnew_
                                    clear hg_ hnew_
                                    (first | rw [← Ny643.out] at ho37 | (simp only [Int.reduceToNat] at ho37; rw [← Ny643.out] at ho37))
                                    have n0_ := Aside0.mk (Kd.V_elder' (by (with_reducible repeat (first | apply Kd.V_alloc | apply Kd.V_drewN | apply Kd.V_drew)); exact HO_0.out) (Kd.R_base ho37) hb)
                                    have n1_ := Aside0.mk (Kd.V_elder' (by (with_reducible repeat (first | apply Kd.V_alloc | apply Kd.V_drewN | apply Kd.V_drew)); exact HO_1.out) (Kd.R_base ho37) hb)
                                    have n2_ := Aside0.mk (Kd.R_elder' (by (with_reducible repeat (first | apply Kd.R_alloc | apply Kd.R_drewN | apply Kd.R_drew)); exact HO_7.out) (Kd.R_base ho37) hb)
                                    have n3_ := Aside0.mk (Kd.V_elder' (by (with_reducible repeat (first | apply Kd.V_alloc | apply Kd.V_drewN | apply Kd.V_drew)); exact HO627.out) (Kd.R_base ho37) hb)
                                    have n4_ := Aside0.mk (Kd.V_elder' (by (with_reducible repeat (first | apply Kd.V_alloc | apply Kd.V_drewN | apply Kd.V_drew)); exact HO630.out) (Kd.R_base ho37) hb)
                                    have n5_ := Aside0.mk (Kd.V_elder' (by (with_reducible repeat (first | apply Kd.V_alloc | apply Kd.V_drewN | apply Kd.V_drew)); exact HO639.out) (Kd.R_base ho37) hb)
                                    have n6_ := Aside0.mk (Kd.V_elder' (by (with_reducible repeat (first | apply Kd.V_alloc | apply Kd.V_drewN | apply Kd.V_drew)); exact HO653.out) (Kd.R_base ho37) hb)
                                    have n7_ := Aside0.mk (Kd.R_elder' (by (with_reducible repeat (first | apply Kd.R_alloc | apply Kd.R_drewN | apply Kd.R_drew)); exact HO634.out) (Kd.R_base ho37) hb)
                                    have n8_ := Aside0.mk (Kd.R_lower (Kd.R_new' (Kd.R_new' (Kd.R_newM (M := fun k_ => (w.heap.size ≤ k_)) ho37 (below_size (by repeat (first | (with_reducible first | exact HB.out | apply below_alloc | apply pw_below_drewN | apply below_drew1) | exact HB.out))) (fun k_ h_ => h_)) (Kd.R_lt (by (with_reducible repeat (first | apply Kd.R_alloc | apply Kd.R_drewN | apply Kd.R_drew)); exact HO_7.out))) (Kd.R_lt (by (with_reducible repeat (first | apply Kd.R_alloc | apply Kd.R_drewN | apply Kd.R_drew)); exact HO634.out))) (below_size (by repeat (first | (with_reducible first | exact HB.out | apply below_alloc | apply pw_below_drewN | apply below_drew1) | exact HB.out))))
                                    have n9_ := Aside0.mk (below_step (by repeat (first | (with_reducible first | exact HB.out | apply below_alloc | apply pw_below_drewN | apply below_drew1) | exact HB.out)) hb)
                                    clear HO_0
                                    clear HO_1
                                    clear HO_7
                                    clear HO627
                                    clear HO630
                                    clear HO639
                                    clear HO653
                                    clear HO634
                                    clear HB
                                    have HO_0 := n0_
                                    have HO_1 := n1_
                                    have HO_7 := n2_
                                    have HO627 := n3_
                                    have HO630 := n4_
                                    have HO639 := n5_
                                    have HO653 := n6_
                                    have HO634 := n7_
                                    have HO645 := n8_
                                    have HB := n9_
                                    clear n0_ n1_ n2_ n3_ n4_ n5_ n6_ n7_ n8_ n9_
                                    clear hb ho37
                                    refine hK.out _ _ trivial (fun hHeld => ?_)
                                    clear hK K
                                    refine norm_ (a' := ?_) ?_ ?_
                                    rotate_left
                                    · show Act.put _ (some 45) _ = _
                                      simp only [Act.put, List.setIfInBounds_toArray, List.set_cons_zero, List.set_cons_succ, i64_w, i32_w]
                                      rfl
                                    refine one_ (i := 4) (N := some 43) #[true, true, true, true, true, true, true, false, true, true, true, false, false] rfl rfl (one_of HT_.out (by kernel_rfl)) (by decide) (fun K hK => ?_)
                                    refine Kd.R_append_rows_step (Kd.int .i64) (w0 := w) w.heap.size (by rfl) (.tmp 39) (.tmp 42) 23 3 (.int .i64 0) 8 rfl Try.underlying23 info3 rfl (by decide) (by omega) v633 y632 y635 _ _ _ (fun k_ => (w.heap.size ≤ k_) ∧ some k_ ≠ (.slice (some ad624) x7_1.length co5 : Value).ownBlock ∧ some k_ ≠ (v644 : Value).ownBlock) (fun _ => False) rfl rfl ?aO ?aR (fun _ _ h => h) (fun _ h => h.elim) ?aF ?aB ?aS ?aL ?_
                                    (case aR => repeat (first | exact (Kd.V_reads' HO639.out).2.2 | (with_reducible refine Kd.C_alloc ?_ _) | (with_reducible refine Kd.C_drewN ?_ _) | (with_reducible refine Kd.C_drew ?_)))
                                    (case aB => exact (by repeat (first | (with_reducible first | exact HB.out | apply below_alloc | apply pw_below_drewN | apply below_drew1) | exact HB.out)))
                                    (case aF => exact (fun k_ hk => ⟨(Nat.le_trans (below_size (by repeat (first | (with_reducible first | exact HB.out | apply below_alloc | apply pw_below_drewN | apply below_drew1) | exact HB.out))) hk), Kd.fresh' (Kd.R_lt (by (with_reducible repeat (first | apply Kd.R_alloc | apply Kd.R_drewN | apply Kd.R_drew)); exact HO_7.out)) k_ hk, Kd.fresh' (Kd.R_lt (by (with_reducible repeat (first | apply Kd.R_alloc | apply Kd.R_drewN | apply Kd.R_drew)); exact HO645.out)) k_ hk⟩))
                                    (case aO => exact (by (with_reducible repeat (first | apply Kd.R_alloc | apply Kd.R_drewN | apply Kd.R_drew)); exact Kd.R_mono HO634.out (fun _ hk => ⟨hk.1.1.1, ⟨hk.1.2, hk.2⟩⟩)))
                                    (case aS => exact (below_size (by repeat (first | (with_reducible first | exact HB.out | apply below_alloc | apply pw_below_drewN | apply below_drew1) | exact HB.out))))
                                    (case aL => have := LMc21.out; omega)
                                    intro v641 w38 ho hb hg hat
                                    rw [← Ny640.out] at ho
                                    have n0_ := Aside0.mk (Kd.V_afterv (ok := (fun k_ => ((P0_ k_ ∨ P1_ k_) ∨ w.heap.size ≤ k_) ∧ some k_ ≠ (.slice (some ad624) x7_1.length co5 : Value).ownBlock ∧ some k_ ≠ (v644 : Value).ownBlock)) (by (with_reducible repeat (first | apply Kd.V_alloc | apply Kd.V_drewN | apply Kd.V_drew)); exact Kd.V_mono HO_0.out (fun _ hk => ⟨⟨hk.1.1.1, ⟨hk.1.1.2, hk.2⟩⟩, hk.1.2⟩)) hg hat)
                                    have n1_ := Aside0.mk (Kd.V_afterv (ok := (fun k_ => ((P0_ k_ ∨ P1_ k_) ∨ w.heap.size ≤ k_) ∧ some k_ ≠ (.slice (some ad624) x7_1.length co5 : Value).ownBlock ∧ some k_ ≠ (v644 : Value).ownBlock)) (by (with_reducible repeat (first | apply Kd.V_alloc | apply Kd.V_drewN | apply Kd.V_drew)); exact Kd.V_mono HO_1.out (fun _ hk => ⟨⟨hk.1.1.1, ⟨hk.1.1.2, hk.2⟩⟩, hk.1.2⟩)) hg hat)
                                    have n2_ := Aside0.mk (Kd.R_after (ok := (fun k_ => (w.heap.size ≤ k_) ∧ some k_ ≠ (v644 : Value).ownBlock)) (by (with_reducible repeat (first | apply Kd.R_alloc | apply Kd.R_drewN | apply Kd.R_drew)); exact Kd.R_mono HO_7.out (fun _ hk => ⟨⟨hk.1.1, hk.2⟩, hk.1.2⟩)) hg hat)
                                    have n3_ := Aside0.mk (Kd.V_afterv (ok := (fun k_ => ((P0_ k_ ∨ P1_ k_) ∨ w.heap.size ≤ k_) ∧ some k_ ≠ (.slice (some ad624) x7_1.length co5 : Value).ownBlock ∧ some k_ ≠ (v644 : Value).ownBlock)) (by (with_reducible repeat (first | apply Kd.V_alloc | apply Kd.V_drewN | apply Kd.V_drew)); exact Kd.V_mono HO627.out (fun _ hk => ⟨⟨hk.1.1.1, ⟨hk.1.1.2, hk.2⟩⟩, hk.1.2⟩)) hg hat)
                                    have n4_ := Aside0.mk (Kd.V_afterv (ok := (fun k_ => ((P0_ k_ ∨ P1_ k_) ∨ w.heap.size ≤ k_) ∧ some k_ ≠ (.slice (some ad624) x7_1.length co5 : Value).ownBlock ∧ some k_ ≠ (v644 : Value).ownBlock)) (by (with_reducible repeat (first | apply Kd.V_alloc | apply Kd.V_drewN | apply Kd.V_drew)); exact Kd.V_mono HO630.out (fun _ hk => ⟨⟨hk.1.1.1, ⟨hk.1.1.2, hk.2⟩⟩, hk.1.2⟩)) hg hat)
                                    have n5_ := Aside0.mk (Kd.V_afterv (ok := (fun k_ => ((P0_ k_ ∨ P1_ k_) ∨ w.heap.size ≤ k_) ∧ some k_ ≠ (v644 : Value).ownBlock)) (by (with_reducible repeat (first | apply Kd.V_alloc | apply Kd.V_drewN | apply Kd.V_drew)); exact Kd.V_mono HO639.out (fun _ hk => ⟨⟨hk.1.1, hk.2⟩, hk.1.2⟩)) hg hat)
                                    have n6_ := Aside0.mk (Kd.V_afterv (ok := (fun k_ => ((P0_ k_ ∨ P1_ k_) ∨ w.heap.size ≤ k_) ∧ some k_ ≠ (v644 : Value).ownBlock)) (by (with_reducible repeat (first | apply Kd.V_alloc | apply Kd.V_drewN | apply Kd.V_drew)); exact Kd.V_mono HO653.out (fun _ hk => ⟨⟨hk.1.1, hk.2⟩, hk.1.2⟩)) hg hat)
                                    have n7_ := Aside0.mk (Kd.R_after (ok := (fun k_ => (w.heap.size ≤ k_) ∧ some k_ ≠ (.slice (some ad624) x7_1.length co5 : Value).ownBlock)) (by (with_reducible repeat (first | apply Kd.R_alloc | apply Kd.R_drewN | apply Kd.R_drew)); exact Kd.R_mono HO645.out (fun _ hk => ⟨⟨hk.1.1.1, hk.1.2⟩, hk.2⟩)) hg hat)
                                    have n8_ := Aside0.mk (hb)
                                    have n9_ := Aside0.mk (ho)
                                    clear HO_0
                                    clear HO_1
                                    clear HO_7
                                    clear HO627
                                    clear HO630
                                    clear HO639
                                    clear HO653
                                    clear HO645
                                    clear HB
                                    clear HO634
                                    have HO_0 := n0_
                                    have HO_1 := n1_
                                    have HO_7 := n2_
                                    have HO627 := n3_
                                    have HO630 := n4_
                                    have HO639 := n5_
                                    have HO653 := n6_
                                    have HO645 := n7_
                                    have HB := n8_
                                    have HO642 := n9_
                                    clear n0_ n1_ n2_ n3_ n4_ n5_ n6_ n7_ n8_ n9_
                                    clear ho hb hg hat
                                    refine hK.out _ _ trivial (fun hHeld => ?_)
                                    clear hK K
                                    refine norm_ (a' := ?_) ?_ ?_
                                    rotate_left
                                    · show Act.put _ (some 43) _ = _
                                      simp only [Act.put, List.setIfInBounds_toArray, List.set_cons_zero, List.set_cons_succ, i64_w, i32_w]
                                      rfl
                                    exact norm_ (by simp only [putAll, Act.put, List.setIfInBounds_toArray, List.set_cons_zero, List.set_cons_succ]) (hCont (v633, v641, v644) _ ⟨(by (with_reducible repeat (first | apply Kd.V_alloc | apply Kd.V_drewN | apply Kd.V_drew)); exact Kd.V_mono HO627.out (fun _ hk => ⟨hk.1.1, ⟨hk.2, ⟨hk.1.2.2, hk.1.2.1⟩⟩⟩)), (by (with_reducible repeat (first | apply Kd.V_alloc | apply Kd.V_drewN | apply Kd.V_drew)); exact Kd.V_mono HO630.out (fun _ hk => ⟨hk.1.1, ⟨hk.2, ⟨hk.1.2.2, hk.1.2.1⟩⟩⟩)), (by (with_reducible repeat (first | apply Kd.V_alloc | apply Kd.V_drewN | apply Kd.V_drew)); exact Kd.V_mono HO639.out (fun _ hk => ⟨hk.1.1, ⟨hk.2, hk.1.2⟩⟩)), (by (with_reducible repeat (first | apply Kd.R_alloc | apply Kd.R_drewN | apply Kd.R_drew)); exact Kd.R_mono HO642.out (fun _ hk => ⟨hk.1, ⟨hk.2.2, hk.2.1⟩⟩)), (by (with_reducible repeat (first | apply Kd.R_alloc | apply Kd.R_drewN | apply Kd.R_drew)); exact Kd.R_mono HO645.out (fun _ hk => ⟨hk.1.1, ⟨hk.2, hk.1.2⟩⟩)), (by (with_reducible repeat (first | apply Kd.V_alloc | apply Kd.V_drewN | apply Kd.V_drew)); exact Kd.V_mono HO653.out (fun _ hk => ⟨hk.1.1, ⟨hk.2, hk.1.2⟩⟩)), (by (with_reducible repeat (first | apply Kd.V_alloc | apply Kd.V_drewN | apply Kd.V_drew)); exact Kd.V_mono HO_0.out (fun _ hk => ⟨hk.1.1, ⟨hk.2, ⟨hk.1.2.2, hk.1.2.1⟩⟩⟩)), (by (with_reducible repeat (first | apply Kd.V_alloc | apply Kd.V_drewN | apply Kd.V_drew)); exact Kd.V_mono HO_1.out (fun _ hk => ⟨hk.1.1, ⟨hk.2, ⟨hk.1.2.2, hk.1.2.1⟩⟩⟩)), (by (with_reducible repeat (first | apply Kd.R_alloc | apply Kd.R_drewN | apply Kd.R_drew)); exact Kd.R_mono HO_7.out (fun _ hk => ⟨hk.1.1, ⟨hk.2, hk.1.2⟩⟩)), (by repeat (first | (with_reducible first | exact HB.out | apply below_alloc | apply pw_below_drewN | apply below_drew1) | exact HB.out))⟩)
                                · skip
                                  refine Kd.R_lit_step (Kd.int .i64) _ 3 ?hg (N := 45) ?hd (xs := ([x8_1] : List Int)) (inner := [.int .i64 x8_1]) (ok := fun _ => True) (okp := fun _ => True) ?hr ?hp (fun _ hk => hk) trivial (Below.refl _ _) (Nat.le_refl _) (by simp) ?_; (case hd => rfl); (case hg => rfl); (case hr => first | (go_simp; done) | (go_simp; rfl)); (case hp => exact (Reps.one (show Kd.M (Kd.int .i64) _ _ _ x8_1 [.int .i64 x8_1] from rfl) (Reps.none _ _)))
                                  intro v644 w34 ho35 hb hg_ hnew_
                                  clear hg_ hnew_
                                  (first | rw [← Ny643.out] at ho35 | (simp only [Int.reduceToNat] at ho35; rw [← Ny643.out] at ho35))
                                  have n0_ := Aside0.mk (Kd.V_elder' (by (with_reducible repeat (first | apply Kd.V_alloc | apply Kd.V_drewN | apply Kd.V_drew)); exact HO_0.out) (Kd.R_base ho35) hb)
                                  have n1_ := Aside0.mk (Kd.V_elder' (by (with_reducible repeat (first | apply Kd.V_alloc | apply Kd.V_drewN | apply Kd.V_drew)); exact HO_1.out) (Kd.R_base ho35) hb)
                                  have n2_ := Aside0.mk (Kd.R_elder' (by (with_reducible repeat (first | apply Kd.R_alloc | apply Kd.R_drewN | apply Kd.R_drew)); exact HO_7.out) (Kd.R_base ho35) hb)
                                  have n3_ := Aside0.mk (Kd.V_elder' (by (with_reducible repeat (first | apply Kd.V_alloc | apply Kd.V_drewN | apply Kd.V_drew)); exact HO627.out) (Kd.R_base ho35) hb)
                                  have n4_ := Aside0.mk (Kd.V_elder' (by (with_reducible repeat (first | apply Kd.V_alloc | apply Kd.V_drewN | apply Kd.V_drew)); exact HO630.out) (Kd.R_base ho35) hb)
                                  have n5_ := Aside0.mk (Kd.V_elder' (by (with_reducible repeat (first | apply Kd.V_alloc | apply Kd.V_drewN | apply Kd.V_drew)); exact HO639.out) (Kd.R_base ho35) hb)
                                  have n6_ := Aside0.mk (Kd.V_elder' (by (with_reducible repeat (first | apply Kd.V_alloc | apply Kd.V_drewN | apply Kd.V_drew)); exact HO653.out) (Kd.R_base ho35) hb)
                                  have n7_ := Aside0.mk (Kd.R_lower (Kd.R_new' (Kd.R_newM (M := fun k_ => (w.heap.size ≤ k_)) ho35 (below_size (by repeat (first | (with_reducible first | exact HB.out | apply below_alloc | apply pw_below_drewN | apply below_drew1) | exact HB.out))) (fun k_ h_ => h_)) (Kd.R_lt (by (with_reducible repeat (first | apply Kd.R_alloc | apply Kd.R_drewN | apply Kd.R_drew)); exact HO_7.out))) (below_size (by repeat (first | (with_reducible first | exact HB.out | apply below_alloc | apply pw_below_drewN | apply below_drew1) | exact HB.out))))
                                  have n8_ := Aside0.mk (below_step (by repeat (first | (with_reducible first | exact HB.out | apply below_alloc | apply pw_below_drewN | apply below_drew1) | exact HB.out)) hb)
                                  clear HO_0
                                  clear HO_1
                                  clear HO_7
                                  clear HO627
                                  clear HO630
                                  clear HO639
                                  clear HO653
                                  clear HB
                                  have HO_0 := n0_
                                  have HO_1 := n1_
                                  have HO_7 := n2_
                                  have HO627 := n3_
                                  have HO630 := n4_
                                  have HO639 := n5_
                                  have HO653 := n6_
                                  have HO645 := n7_
                                  have HB := n8_
                                  clear n0_ n1_ n2_ n3_ n4_ n5_ n6_ n7_ n8_
                                  clear hb ho35
                                  refine hK.out _ _ trivial (fun hHeld => ?_)
                                  clear hK K
                                  refine norm_ (a' := ?_) ?_ ?_
                                  rotate_left
                                  · show Act.put _ (some 45) _ = _
                                    simp only [Act.put, List.setIfInBounds_toArray, List.set_cons_zero, List.set_cons_succ, i64_w, i32_w]
                                    rfl
                                  refine one_ (i := 0) (N := some 39) #[true, true, true, true, false, true, true, false, true, true, true, false, false] rfl rfl (one_of HT_.out (by kernel_rfl)) (by decide) (fun K hK => ?_)
                                  refine Kd.R_lit_step (Kd.int .i64) _ 3 ?hg (N := 39) ?hd (xs := ([] : List Int)) (inner := []) (ok := fun _ => True) (okp := fun _ => True) ?hr ?hp (fun _ hk => hk) trivial (Below.refl _ _) (Nat.le_refl _) (by simp) ?_; (case hd => rfl); (case hg => rfl); (case hr => first | (go_simp; done) | (go_simp; rfl)); (case hp => exact (Reps.none _ _))
                                  intro v633 w36 ho37 hb hg_ hnew_
                                  clear hg_ hnew_
                                  (first | rw [← Ny632.out] at ho37 | (simp only [Int.reduceToNat] at ho37; rw [← Ny632.out] at ho37))
                                  have n0_ := Aside0.mk (Kd.V_elder' (by (with_reducible repeat (first | apply Kd.V_alloc | apply Kd.V_drewN | apply Kd.V_drew)); exact HO_0.out) (Kd.R_base ho37) hb)
                                  have n1_ := Aside0.mk (Kd.V_elder' (by (with_reducible repeat (first | apply Kd.V_alloc | apply Kd.V_drewN | apply Kd.V_drew)); exact HO_1.out) (Kd.R_base ho37) hb)
                                  have n2_ := Aside0.mk (Kd.R_elder' (by (with_reducible repeat (first | apply Kd.R_alloc | apply Kd.R_drewN | apply Kd.R_drew)); exact HO_7.out) (Kd.R_base ho37) hb)
                                  have n3_ := Aside0.mk (Kd.V_elder' (by (with_reducible repeat (first | apply Kd.V_alloc | apply Kd.V_drewN | apply Kd.V_drew)); exact HO627.out) (Kd.R_base ho37) hb)
                                  have n4_ := Aside0.mk (Kd.V_elder' (by (with_reducible repeat (first | apply Kd.V_alloc | apply Kd.V_drewN | apply Kd.V_drew)); exact HO630.out) (Kd.R_base ho37) hb)
                                  have n5_ := Aside0.mk (Kd.V_elder' (by (with_reducible repeat (first | apply Kd.V_alloc | apply Kd.V_drewN | apply Kd.V_drew)); exact HO639.out) (Kd.R_base ho37) hb)
                                  have n6_ := Aside0.mk (Kd.V_elder' (by (with_reducible repeat (first | apply Kd.V_alloc | apply Kd.V_drewN | apply Kd.V_drew)); exact HO653.out) (Kd.R_base ho37) hb)
                                  have n7_ := Aside0.mk (Kd.R_elder' (by (with_reducible repeat (first | apply Kd.R_alloc | apply Kd.R_drewN | apply Kd.R_drew)); exact HO645.out) (Kd.R_base ho37) hb)
                                  have n8_ := Aside0.mk (Kd.R_lower (Kd.R_new' (Kd.R_new' (Kd.R_newM (M := fun k_ => (w.heap.size ≤ k_)) ho37 (below_size (by repeat (first | (with_reducible first | exact HB.out | apply below_alloc | apply pw_below_drewN | apply below_drew1) | exact HB.out))) (fun k_ h_ => h_)) (Kd.R_lt (by (with_reducible repeat (first | apply Kd.R_alloc | apply Kd.R_drewN | apply Kd.R_drew)); exact HO_7.out))) (Kd.R_lt (by (with_reducible repeat (first | apply Kd.R_alloc | apply Kd.R_drewN | apply Kd.R_drew)); exact HO645.out))) (below_size (by repeat (first | (with_reducible first | exact HB.out | apply below_alloc | apply pw_below_drewN | apply below_drew1) | exact HB.out))))
                                  have n9_ := Aside0.mk (below_step (by repeat (first | (with_reducible first | exact HB.out | apply below_alloc | apply pw_below_drewN | apply below_drew1) | exact HB.out)) hb)
                                  clear HO_0
                                  clear HO_1
                                  clear HO_7
                                  clear HO627
                                  clear HO630
                                  clear HO639
                                  clear HO653
                                  clear HO645
                                  clear HB
                                  have HO_0 := n0_
                                  have HO_1 := n1_
                                  have HO_7 := n2_
                                  have HO627 := n3_
                                  have HO630 := n4_
                                  have HO639 := n5_
                                  have HO653 := n6_
                                  have HO645 := n7_
                                  have HO634 := n8_
                                  have HB := n9_
                                  clear n0_ n1_ n2_ n3_ n4_ n5_ n6_ n7_ n8_ n9_
                                  clear hb ho37
                                  refine hK.out _ _ trivial (fun hHeld => ?_)
                                  clear hK K
                                  refine norm_ (a' := ?_) ?_ ?_
                                  rotate_left
                                  · show Act.put _ (some 39) _ = _
                                    simp only [Act.put, List.setIfInBounds_toArray, List.set_cons_zero, List.set_cons_succ, i64_w, i32_w]
                                    rfl
                                  refine one_ (i := 4) (N := some 43) #[true, true, true, true, true, true, true, false, true, true, true, false, false] rfl rfl (one_of HT_.out (by kernel_rfl)) (by decide) (fun K hK => ?_)
                                  refine Kd.R_append_rows_step (Kd.int .i64) (w0 := w) w.heap.size (by rfl) (.tmp 39) (.tmp 42) 23 3 (.int .i64 0) 8 rfl Try.underlying23 info3 rfl (by decide) (by omega) v633 y632 y635 _ _ _ (fun k_ => (w.heap.size ≤ k_) ∧ some k_ ≠ (.slice (some ad624) x7_1.length co5 : Value).ownBlock ∧ some k_ ≠ (v644 : Value).ownBlock) (fun _ => False) rfl rfl ?aO ?aR (fun _ _ h => h) (fun _ h => h.elim) ?aF ?aB ?aS ?aL ?_
                                  (case aR => repeat (first | exact (Kd.V_reads' HO639.out).2.2 | (with_reducible refine Kd.C_alloc ?_ _) | (with_reducible refine Kd.C_drewN ?_ _) | (with_reducible refine Kd.C_drew ?_)))
                                  (case aB => exact (by repeat (first | (with_reducible first | exact HB.out | apply below_alloc | apply pw_below_drewN | apply below_drew1) | exact HB.out)))
                                  (case aF => exact (fun k_ hk => ⟨(Nat.le_trans (below_size (by repeat (first | (with_reducible first | exact HB.out | apply below_alloc | apply pw_below_drewN | apply below_drew1) | exact HB.out))) hk), Kd.fresh' (Kd.R_lt (by (with_reducible repeat (first | apply Kd.R_alloc | apply Kd.R_drewN | apply Kd.R_drew)); exact HO_7.out)) k_ hk, Kd.fresh' (Kd.R_lt (by (with_reducible repeat (first | apply Kd.R_alloc | apply Kd.R_drewN | apply Kd.R_drew)); exact HO645.out)) k_ hk⟩))
                                  (case aO => exact (by (with_reducible repeat (first | apply Kd.R_alloc | apply Kd.R_drewN | apply Kd.R_drew)); exact Kd.R_mono HO634.out (fun _ hk => ⟨hk.1.1.1, ⟨hk.1.2, hk.2⟩⟩)))
                                  (case aS => exact (below_size (by repeat (first | (with_reducible first | exact HB.out | apply below_alloc | apply pw_below_drewN | apply below_drew1) | exact HB.out))))
                                  (case aL => have := LMc21.out; omega)
                                  intro v641 w38 ho hb hg hat
                                  rw [← Ny640.out] at ho
                                  have n0_ := Aside0.mk (Kd.V_afterv (ok := (fun k_ => ((P0_ k_ ∨ P1_ k_) ∨ w.heap.size ≤ k_) ∧ some k_ ≠ (.slice (some ad624) x7_1.length co5 : Value).ownBlock ∧ some k_ ≠ (v644 : Value).ownBlock)) (by (with_reducible repeat (first | apply Kd.V_alloc | apply Kd.V_drewN | apply Kd.V_drew)); exact Kd.V_mono HO_0.out (fun _ hk => ⟨⟨hk.1.1.1, ⟨hk.1.1.2, hk.1.2⟩⟩, hk.2⟩)) hg hat)
                                  have n1_ := Aside0.mk (Kd.V_afterv (ok := (fun k_ => ((P0_ k_ ∨ P1_ k_) ∨ w.heap.size ≤ k_) ∧ some k_ ≠ (.slice (some ad624) x7_1.length co5 : Value).ownBlock ∧ some k_ ≠ (v644 : Value).ownBlock)) (by (with_reducible repeat (first | apply Kd.V_alloc | apply Kd.V_drewN | apply Kd.V_drew)); exact Kd.V_mono HO_1.out (fun _ hk => ⟨⟨hk.1.1.1, ⟨hk.1.1.2, hk.1.2⟩⟩, hk.2⟩)) hg hat)
                                  have n2_ := Aside0.mk (Kd.R_after (ok := (fun k_ => (w.heap.size ≤ k_) ∧ some k_ ≠ (v644 : Value).ownBlock)) (by (with_reducible repeat (first | apply Kd.R_alloc | apply Kd.R_drewN | apply Kd.R_drew)); exact HO_7.out) hg hat)
                                  have n3_ := Aside0.mk (Kd.V_afterv (ok := (fun k_ => ((P0_ k_ ∨ P1_ k_) ∨ w.heap.size ≤ k_) ∧ some k_ ≠ (.slice (some ad624) x7_1.length co5 : Value).ownBlock ∧ some k_ ≠ (v644 : Value).ownBlock)) (by (with_reducible repeat (first | apply Kd.V_alloc | apply Kd.V_drewN | apply Kd.V_drew)); exact Kd.V_mono HO627.out (fun _ hk => ⟨⟨hk.1.1.1, ⟨hk.1.1.2, hk.1.2⟩⟩, hk.2⟩)) hg hat)
                                  have n4_ := Aside0.mk (Kd.V_afterv (ok := (fun k_ => ((P0_ k_ ∨ P1_ k_) ∨ w.heap.size ≤ k_) ∧ some k_ ≠ (.slice (some ad624) x7_1.length co5 : Value).ownBlock ∧ some k_ ≠ (v644 : Value).ownBlock)) (by (with_reducible repeat (first | apply Kd.V_alloc | apply Kd.V_drewN | apply Kd.V_drew)); exact Kd.V_mono HO630.out (fun _ hk => ⟨⟨hk.1.1.1, ⟨hk.1.1.2, hk.1.2⟩⟩, hk.2⟩)) hg hat)
                                  have n5_ := Aside0.mk (Kd.V_afterv (ok := (fun k_ => ((P0_ k_ ∨ P1_ k_) ∨ w.heap.size ≤ k_) ∧ some k_ ≠ (v644 : Value).ownBlock)) (by (with_reducible repeat (first | apply Kd.V_alloc | apply Kd.V_drewN | apply Kd.V_drew)); exact HO639.out) hg hat)
                                  have n6_ := Aside0.mk (Kd.V_afterv (ok := (fun k_ => ((P0_ k_ ∨ P1_ k_) ∨ w.heap.size ≤ k_) ∧ some k_ ≠ (v644 : Value).ownBlock)) (by (with_reducible repeat (first | apply Kd.V_alloc | apply Kd.V_drewN | apply Kd.V_drew)); exact HO653.out) hg hat)
                                  have n7_ := Aside0.mk (Kd.R_after (ok := (fun k_ => (w.heap.size ≤ k_) ∧ some k_ ≠ (.slice (some ad624) x7_1.length co5 : Value).ownBlock)) (by (with_reducible repeat (first | apply Kd.R_alloc | apply Kd.R_drewN | apply Kd.R_drew)); exact Kd.R_mono HO645.out (fun _ hk => ⟨⟨hk.1.1.1, hk.1.2⟩, hk.2⟩)) hg hat)
                                  have n8_ := Aside0.mk (hb)
                                  have n9_ := Aside0.mk (ho)
                                  clear HO_0
                                  clear HO_1
                                  clear HO_7
                                  clear HO627
                                  clear HO630
                                  clear HO639
                                  clear HO653
                                  clear HO645
                                  clear HB
                                  clear HO634
                                  have HO_0 := n0_
                                  have HO_1 := n1_
                                  have HO_7 := n2_
                                  have HO627 := n3_
                                  have HO630 := n4_
                                  have HO639 := n5_
                                  have HO653 := n6_
                                  have HO645 := n7_
                                  have HB := n8_
                                  have HO642 := n9_
                                  clear n0_ n1_ n2_ n3_ n4_ n5_ n6_ n7_ n8_ n9_
                                  clear ho hb hg hat
                                  refine hK.out _ _ trivial (fun hHeld => ?_)
                                  clear hK K
                                  refine norm_ (a' := ?_) ?_ ?_
                                  rotate_left
                                  · show Act.put _ (some 43) _ = _
                                    simp only [Act.put, List.setIfInBounds_toArray, List.set_cons_zero, List.set_cons_succ, i64_w, i32_w]
                                    rfl
                                  exact norm_ (by simp only [putAll, Act.put, List.setIfInBounds_toArray, List.set_cons_zero, List.set_cons_succ]) (hCont (v633, v641, v644) _ ⟨(by (with_reducible repeat (first | apply Kd.V_alloc | apply Kd.V_drewN | apply Kd.V_drew)); exact Kd.V_mono HO627.out (fun _ hk => ⟨hk.1.1, ⟨hk.2, ⟨hk.1.2.2, hk.1.2.1⟩⟩⟩)), (by (with_reducible repeat (first | apply Kd.V_alloc | apply Kd.V_drewN | apply Kd.V_drew)); exact Kd.V_mono HO630.out (fun _ hk => ⟨hk.1.1, ⟨hk.2, ⟨hk.1.2.2, hk.1.2.1⟩⟩⟩)), (by (with_reducible repeat (first | apply Kd.V_alloc | apply Kd.V_drewN | apply Kd.V_drew)); exact Kd.V_mono HO639.out (fun _ hk => ⟨hk.1.1, ⟨hk.2, hk.1.2⟩⟩)), (by (with_reducible repeat (first | apply Kd.R_alloc | apply Kd.R_drewN | apply Kd.R_drew)); exact Kd.R_mono HO642.out (fun _ hk => ⟨hk.1, ⟨hk.2.2, hk.2.1⟩⟩)), (by (with_reducible repeat (first | apply Kd.R_alloc | apply Kd.R_drewN | apply Kd.R_drew)); exact Kd.R_mono HO645.out (fun _ hk => ⟨hk.1.1, ⟨hk.2, hk.1.2⟩⟩)), (by (with_reducible repeat (first | apply Kd.V_alloc | apply Kd.V_drewN | apply Kd.V_drew)); exact Kd.V_mono HO653.out (fun _ hk => ⟨hk.1.1, ⟨hk.2, hk.1.2⟩⟩)), (by (with_reducible repeat (first | apply Kd.V_alloc | apply Kd.V_drewN | apply Kd.V_drew)); exact Kd.V_mono HO_0.out (fun _ hk => ⟨hk.1.1, ⟨hk.2, ⟨hk.1.2.2, hk.1.2.1⟩⟩⟩)), (by (with_reducible repeat (first | apply Kd.V_alloc | apply Kd.V_drewN | apply Kd.V_drew)); exact Kd.V_mono HO_1.out (fun _ hk => ⟨hk.1.1, ⟨hk.2, ⟨hk.1.2.2, hk.1.2.1⟩⟩⟩)), (by (with_reducible repeat (first | apply Kd.R_alloc | apply Kd.R_drewN | apply Kd.R_drew)); exact Kd.R_mono HO_7.out (fun _ hk => ⟨hk.1.1, ⟨hk.2, hk.1.2⟩⟩)), (by repeat (first | (with_reducible first | exact HB.out | apply below_alloc | apply pw_below_drewN | apply below_drew1) | exact HB.out))⟩)
                              rintro ⟨v633, v641, v644⟩ w39 ⟨h0_, h1_, h2_, h3_, h4_, h5_, h6_, h7_, h8_, h9_⟩
                              have n0_ : Aside0 (Kd.V k33 33 w39 w.heap.size (fun k_ => ((P0_ k_ ∨ P1_ k_) ∨ w.heap.size ≤ k_) ∧ some k_ ≠ (v641 : Value).ownBlock ∧ some k_ ≠ (v644 : Value).ownBlock ∧ some k_ ≠ (.slice (some ad624) x7_1.length co5 : Value).ownBlock) (.slice Ao28 t625.length co28) t625) := ⟨h0_⟩
                              have n1_ : Aside0 (Kd.V k33 33 w39 w.heap.size (fun k_ => ((P0_ k_ ∨ P1_ k_) ∨ w.heap.size ≤ k_) ∧ some k_ ≠ (v641 : Value).ownBlock ∧ some k_ ≠ (v644 : Value).ownBlock ∧ some k_ ≠ (.slice (some ad624) x7_1.length co5 : Value).ownBlock) (.slice Ao29 t628.length co29) t628) := ⟨h1_⟩
                              have n2_ : Aside0 (Kd.V (Kd.int .i64) 3 w39 w.heap.size (fun k_ => ((P0_ k_ ∨ P1_ k_) ∨ w.heap.size ≤ k_) ∧ some k_ ≠ (v641 : Value).ownBlock ∧ some k_ ≠ (v644 : Value).ownBlock) (.slice (some ad624) y635.length co5) y635) := ⟨h2_⟩
                              have n3_ : Aside0 (Kd.R (Kd.int .i64) 3 w39 w.heap.size (fun k_ => (w.heap.size ≤ k_) ∧ some k_ ≠ (v644 : Value).ownBlock ∧ some k_ ≠ (.slice (some ad624) x7_1.length co5 : Value).ownBlock) v641 y640) := ⟨h3_⟩
                              have n4_ : Aside0 (Kd.R (Kd.int .i64) 3 w39 w.heap.size (fun k_ => (w.heap.size ≤ k_) ∧ some k_ ≠ (v641 : Value).ownBlock ∧ some k_ ≠ (.slice (some ad624) x7_1.length co5 : Value).ownBlock) v644 y643) := ⟨h4_⟩
                              have n5_ : Aside0 (Kd.V (Kd.int .i64) 3 w39 w.heap.size (fun k_ => ((P0_ k_ ∨ P1_ k_) ∨ w.heap.size ≤ k_) ∧ some k_ ≠ (v641 : Value).ownBlock ∧ some k_ ≠ (v644 : Value).ownBlock) (.slice A33 y649.length c33) y649) := ⟨h5_⟩
                              have n6_ : Aside0 (Kd.V (Kd.slice 33 k33) 22 w39 w.heap.size (fun k_ => ((P0_ k_ ∨ P1_ k_) ∨ w.heap.size ≤ k_) ∧ some k_ ≠ (v641 : Value).ownBlock ∧ some k_ ≠ (v644 : Value).ownBlock ∧ some k_ ≠ (.slice (some ad624) x7_1.length co5 : Value).ownBlock) (.slice A0 l0.length c0) l0) := ⟨h6_⟩
                              have n7_ : Aside0 (Kd.V (Kd.slice 33 k33) 22 w39 w.heap.size (fun k_ => ((P0_ k_ ∨ P1_ k_) ∨ w.heap.size ≤ k_) ∧ some k_ ≠ (v641 : Value).ownBlock ∧ some k_ ≠ (v644 : Value).ownBlock ∧ some k_ ≠ (.slice (some ad624) x7_1.length co5 : Value).ownBlock) (.slice A1 l1.length c1) l1) := ⟨h7_⟩
                              have n8_ : Aside0 (Kd.R (Kd.int .i64) 3 w39 w.heap.size (fun k_ => (w.heap.size ≤ k_) ∧ some k_ ≠ (v641 : Value).ownBlock ∧ some k_ ≠ (v644 : Value).ownBlock) (.slice (some ad624) x7_1.length co5) x7_1) := ⟨h8_⟩
                              have n9_ : Aside0 (Below w.heap.size w w39) := ⟨h9_⟩
                              clear HO_0
                              clear HO_1
                              clear HO_7
                              clear HO627
                              clear HO630
                              clear HB
                              clear h0_ h1_ h2_ h3_ h4_ h5_ h6_ h7_ h8_ h9_
                              have HO627 := n0_
                              have HO630 := n1_
                              have HO639 := n2_
                              have HO642 := n3_
                              have HO645 := n4_
                              have HO653 := n5_
                              have HO_0 := n6_
                              have HO_1 := n7_
                              have HO_7 := n8_
                              have HB := n9_
                              clear n0_ n1_ n2_ n3_ n4_ n5_ n6_ n7_ n8_ n9_
                              have hHeld := trivial
                              obtain ⟨Ao41, co41, eo41⟩ := Kd.R_slice HO645.out
                              (first | subst eo41 | (injection eo41 with f1_ f2_ f3_; have f4_ := f1_.symm; have f5_ := f3_.symm; clear f1_ f2_ f3_; subst f4_; subst f5_))
                              refine norm_ (a' := ?_) ?_ ?_
                              rotate_left
                              · simp only [putAll, Act.put, List.setIfInBounds_toArray, List.set_cons_zero, List.set_cons_succ]
                                rfl
                              refine one_ (i := 7) (N := some 46) #[true, true, true, true, true, true, true, true, true, true, true, false, false] rfl rfl (one_of HT_.out (by kernel_rfl)) (by decide) (fun K hK => ?_)
                              refine Kd.R_append_rows_step (Kd.int .i64) (w0 := w) w.heap.size (by rfl) (.tmp 43) (.tmp 45) 23 3 (.int .i64 0) 8 rfl Try.underlying23 info3 rfl (by decide) (by omega) v641 y640 y643 _ _ _ (fun k_ => (w.heap.size ≤ k_) ∧ some k_ ≠ (.slice (some ad624) x7_1.length co5 : Value).ownBlock ∧ some k_ ≠ (.slice Ao41 y643.length co41 : Value).ownBlock) (fun _ => False) rfl rfl ?aO ?aR (fun _ _ h => h) (fun _ h => h.elim) ?aF ?aB ?aS ?aL ?_
                              (case aR => repeat (first | exact (Kd.R_reads' HO645.out).2.2 | (with_reducible refine Kd.C_alloc ?_ _) | (with_reducible refine Kd.C_drewN ?_ _) | (with_reducible refine Kd.C_drew ?_)))
                              (case aB => exact (by repeat (first | (with_reducible first | exact HB.out | apply below_alloc | apply pw_below_drewN | apply below_drew1) | exact HB.out)))
                              (case aF => exact (fun k_ hk => ⟨(Nat.le_trans (below_size (by repeat (first | (with_reducible first | exact HB.out | apply below_alloc | apply pw_below_drewN | apply below_drew1) | exact HB.out))) hk), Kd.fresh' (Kd.R_lt (by (with_reducible repeat (first | apply Kd.R_alloc | apply Kd.R_drewN | apply Kd.R_drew)); exact HO_7.out)) k_ hk, Kd.fresh' (Kd.R_lt (by (with_reducible repeat (first | apply Kd.R_alloc | apply Kd.R_drewN | apply Kd.R_drew)); exact HO645.out)) k_ hk⟩))
                              (case aO => exact (by (with_reducible repeat (first | apply Kd.R_alloc | apply Kd.R_drewN | apply Kd.R_drew)); exact Kd.R_mono HO642.out (fun _ hk => ⟨hk.1, ⟨hk.2.2, hk.2.1⟩⟩)))
                              (case aS => exact (below_size (by repeat (first | (with_reducible first | exact HB.out | apply below_alloc | apply pw_below_drewN | apply below_drew1) | exact HB.out))))
                              (case aL => have := LMc22.out; omega)
                              intro v647 w40 ho hb hg hat
                              rw [← Ny646.out] at ho
                              have n0_ := Aside0.mk (Kd.V_afterv (ok := (fun k_ => ((P0_ k_ ∨ P1_ k_) ∨ w.heap.size ≤ k_) ∧ some k_ ≠ (.slice (some ad624) x7_1.length co5 : Value).ownBlock ∧ some k_ ≠ (.slice Ao41 y643.length co41 : Value).ownBlock)) (by (with_reducible repeat (first | apply Kd.V_alloc | apply Kd.V_drewN | apply Kd.V_drew)); exact Kd.V_mono HO_0.out (fun _ hk => ⟨⟨hk.1, ⟨hk.2.2.2, hk.2.2.1⟩⟩, hk.2.1⟩)) hg hat)
                              have n1_ := Aside0.mk (Kd.V_afterv (ok := (fun k_ => ((P0_ k_ ∨ P1_ k_) ∨ w.heap.size ≤ k_) ∧ some k_ ≠ (.slice (some ad624) x7_1.length co5 : Value).ownBlock ∧ some k_ ≠ (.slice Ao41 y643.length co41 : Value).ownBlock)) (by (with_reducible repeat (first | apply Kd.V_alloc | apply Kd.V_drewN | apply Kd.V_drew)); exact Kd.V_mono HO_1.out (fun _ hk => ⟨⟨hk.1, ⟨hk.2.2.2, hk.2.2.1⟩⟩, hk.2.1⟩)) hg hat)
                              have n2_ := Aside0.mk (Kd.R_after (ok := (fun k_ => (w.heap.size ≤ k_) ∧ some k_ ≠ (.slice Ao41 y643.length co41 : Value).ownBlock)) (by (with_reducible repeat (first | apply Kd.R_alloc | apply Kd.R_drewN | apply Kd.R_drew)); exact Kd.R_mono HO_7.out (fun _ hk => ⟨⟨hk.1, hk.2.2⟩, hk.2.1⟩)) hg hat)
                              have n3_ := Aside0.mk (Kd.V_afterv (ok := (fun k_ => ((P0_ k_ ∨ P1_ k_) ∨ w.heap.size ≤ k_) ∧ some k_ ≠ (.slice (some ad624) x7_1.length co5 : Value).ownBlock ∧ some k_ ≠ (.slice Ao41 y643.length co41 : Value).ownBlock)) (by (with_reducible repeat (first | apply Kd.V_alloc | apply Kd.V_drewN | apply Kd.V_drew)); exact Kd.V_mono HO627.out (fun _ hk => ⟨⟨hk.1, ⟨hk.2.2.2, hk.2.2.1⟩⟩, hk.2.1⟩)) hg hat)
                              have n4_ := Aside0.mk (Kd.V_afterv (ok := (fun k_ => ((P0_ k_ ∨ P1_ k_) ∨ w.heap.size ≤ k_) ∧ some k_ ≠ (.slice (some ad624) x7_1.length co5 : Value).ownBlock ∧ some k_ ≠ (.slice Ao41 y643.length co41 : Value).ownBlock)) (by (with_reducible repeat (first | apply Kd.V_alloc | apply Kd.V_drewN | apply Kd.V_drew)); exact Kd.V_mono HO630.out (fun _ hk => ⟨⟨hk.1, ⟨hk.2.2.2, hk.2.2.1⟩⟩, hk.2.1⟩)) hg hat)
                              have n5_ := Aside0.mk (Kd.V_afterv (ok := (fun k_ => ((P0_ k_ ∨ P1_ k_) ∨ w.heap.size ≤ k_) ∧ some k_ ≠ (.slice Ao41 y643.length co41 : Value).ownBlock)) (by (with_reducible repeat (first | apply Kd.V_alloc | apply Kd.V_drewN | apply Kd.V_drew)); exact Kd.V_mono HO639.out (fun _ hk => ⟨⟨hk.1, hk.2.2⟩, hk.2.1⟩)) hg hat)
                              have n6_ := Aside0.mk (Kd.V_afterv (ok := (fun k_ => ((P0_ k_ ∨ P1_ k_) ∨ w.heap.size ≤ k_) ∧ some k_ ≠ (.slice Ao41 y643.length co41 : Value).ownBlock)) (by (with_reducible repeat (first | apply Kd.V_alloc | apply Kd.V_drewN | apply Kd.V_drew)); exact Kd.V_mono HO653.out (fun _ hk => ⟨⟨hk.1, hk.2.2⟩, hk.2.1⟩)) hg hat)
                              have n7_ := Aside0.mk (Kd.R_after (ok := (fun k_ => (w.heap.size ≤ k_) ∧ some k_ ≠ (.slice (some ad624) x7_1.length co5 : Value).ownBlock)) (by (with_reducible repeat (first | apply Kd.R_alloc | apply Kd.R_drewN | apply Kd.R_drew)); exact Kd.R_mono HO645.out (fun _ hk => ⟨⟨hk.1, hk.2.2⟩, hk.2.1⟩)) hg hat)
                              have n8_ := Aside0.mk (hb)
                              have n9_ := Aside0.mk (ho)
                              clear HO_0
                              clear HO_1
                              clear HO_7
                              clear HO627
                              clear HO630
                              clear HO639
                              clear HO653
                              clear HO645
                              clear HB
                              clear HO642
                              have HO_0 := n0_
                              have HO_1 := n1_
                              have HO_7 := n2_
                              have HO627 := n3_
                              have HO630 := n4_
                              have HO639 := n5_
                              have HO653 := n6_
                              have HO645 := n7_
                              have HB := n8_
                              have HO648 := n9_
                              clear n0_ n1_ n2_ n3_ n4_ n5_ n6_ n7_ n8_ n9_
                              clear ho hb hg hat
                              refine hK.out _ _ trivial (fun hHeld => ?_)
                              clear hK K
                              refine norm_ (a' := ?_) ?_ ?_
                              rotate_left
                              · show Act.put _ (some 46) _ = _
                                simp only [Act.put, List.setIfInBounds_toArray, List.set_cons_zero, List.set_cons_succ, i64_w, i32_w]
                                rfl
                              refine one_ (i := 11) (N := some 50) #[true, true, true, true, true, true, true, true, true, true, true, true, false] rfl rfl (one_of HT_.out (by kernel_rfl)) (by decide) (fun K hK => ?_)
                              refine Kd.R_append_rows_step (Kd.int .i64) (w0 := w) w.heap.size (by rfl) (.tmp 46) (.tmp 49) 23 3 (.int .i64 0) 8 rfl Try.underlying23 info3 rfl (by decide) (by omega) v647 y646 y649 _ _ _ (fun k_ => (w.heap.size ≤ k_) ∧ some k_ ≠ (.slice (some ad624) x7_1.length co5 : Value).ownBlock ∧ some k_ ≠ (.slice Ao41 y643.length co41 : Value).ownBlock) (fun _ => False) rfl rfl ?aO ?aR (fun _ _ h => h) (fun _ h => h.elim) ?aF ?aB ?aS ?aL ?_
                              (case aR => repeat (first | exact (Kd.V_reads' HO653.out).2.2 | (with_reducible refine Kd.C_alloc ?_ _) | (with_reducible refine Kd.C_drewN ?_ _) | (with_reducible refine Kd.C_drew ?_)))
                              (case aB => exact (by repeat (first | (with_reducible first | exact HB.out | apply below_alloc | apply pw_below_drewN | apply below_drew1) | exact HB.out)))
                              (case aF => exact (fun k_ hk => ⟨(Nat.le_trans (below_size (by repeat (first | (with_reducible first | exact HB.out | apply below_alloc | apply pw_below_drewN | apply below_drew1) | exact HB.out))) hk), Kd.fresh' (Kd.R_lt (by (with_reducible repeat (first | apply Kd.R_alloc | apply Kd.R_drewN | apply Kd.R_drew)); exact HO_7.out)) k_ hk, Kd.fresh' (Kd.R_lt (by (with_reducible repeat (first | apply Kd.R_alloc | apply Kd.R_drewN | apply Kd.R_drew)); exact HO645.out)) k_ hk⟩))
                              (case aO => exact (by (with_reducible repeat (first | apply Kd.R_alloc | apply Kd.R_drewN | apply Kd.R_drew)); exact HO648.out))
                              (case aS => exact (below_size (by repeat (first | (with_reducible first | exact HB.out | apply below_alloc | apply pw_below_drewN | apply below_drew1) | exact HB.out))))
                              (case aL => have := LMc25.out; omega)
                              intro v655 w42 ho hb hg hat
                              rw [← Ny654.out] at ho
                              have n0_ := Aside0.mk (Kd.V_afterv (ok := (fun k_ => ((P0_ k_ ∨ P1_ k_) ∨ w.heap.size ≤ k_) ∧ some k_ ≠ (.slice (some ad624) x7_1.length co5 : Value).ownBlock ∧ some k_ ≠ (.slice Ao41 y643.length co41 : Value).ownBlock)) (by (with_reducible repeat (first | apply Kd.V_alloc | apply Kd.V_drewN | apply Kd.V_drew)); exact HO_0.out) hg hat)
                              have n1_ := Aside0.mk (Kd.V_afterv (ok := (fun k_ => ((P0_ k_ ∨ P1_ k_) ∨ w.heap.size ≤ k_) ∧ some k_ ≠ (.slice (some ad624) x7_1.length co5 : Value).ownBlock ∧ some k_ ≠ (.slice Ao41 y643.length co41 : Value).ownBlock)) (by (with_reducible repeat (first | apply Kd.V_alloc | apply Kd.V_drewN | apply Kd.V_drew)); exact HO_1.out) hg hat)
                              have n2_ := Aside0.mk (Kd.R_after (ok := (fun k_ => (w.heap.size ≤ k_) ∧ some k_ ≠ (.slice Ao41 y643.length co41 : Value).ownBlock)) (by (with_reducible repeat (first | apply Kd.R_alloc | apply Kd.R_drewN | apply Kd.R_drew)); exact HO_7.out) hg hat)
                              have n3_ := Aside0.mk (Kd.V_afterv (ok := (fun k_ => ((P0_ k_ ∨ P1_ k_) ∨ w.heap.size ≤ k_) ∧ some k_ ≠ (.slice (some ad624) x7_1.length co5 : Value).ownBlock ∧ some k_ ≠ (.slice Ao41 y643.length co41 : Value).ownBlock)) (by (with_reducible repeat (first | apply Kd.V_alloc | apply Kd.V_drewN | apply Kd.V_drew)); exact HO627.out) hg hat)
                              have n4_ := Aside0.mk (Kd.V_afterv (ok := (fun k_ => ((P0_ k_ ∨ P1_ k_) ∨ w.heap.size ≤ k_) ∧ some k_ ≠ (.slice (some ad624) x7_1.length co5 : Value).ownBlock ∧ some k_ ≠ (.slice Ao41 y643.length co41 : Value).ownBlock)) (by (with_reducible repeat (first | apply Kd.V_alloc | apply Kd.V_drewN | apply Kd.V_drew)); exact HO630.out) hg hat)
                              have n5_ := Aside0.mk (Kd.V_afterv (ok := (fun k_ => ((P0_ k_ ∨ P1_ k_) ∨ w.heap.size ≤ k_) ∧ some k_ ≠ (.slice Ao41 y643.length co41 : Value).ownBlock)) (by (with_reducible repeat (first | apply Kd.V_alloc | apply Kd.V_drewN | apply Kd.V_drew)); exact HO639.out) hg hat)
                              have n6_ := Aside0.mk (Kd.V_afterv (ok := (fun k_ => ((P0_ k_ ∨ P1_ k_) ∨ w.heap.size ≤ k_) ∧ some k_ ≠ (.slice Ao41 y643.length co41 : Value).ownBlock)) (by (with_reducible repeat (first | apply Kd.V_alloc | apply Kd.V_drewN | apply Kd.V_drew)); exact HO653.out) hg hat)
                              have n7_ := Aside0.mk (Kd.R_after (ok := (fun k_ => (w.heap.size ≤ k_) ∧ some k_ ≠ (.slice (some ad624) x7_1.length co5 : Value).ownBlock)) (by (with_reducible repeat (first | apply Kd.R_alloc | apply Kd.R_drewN | apply Kd.R_drew)); exact HO645.out) hg hat)
                              have n8_ := Aside0.mk (hb)
                              have n9_ := Aside0.mk (ho)
                              clear HO_0
                              clear HO_1
                              clear HO_7
                              clear HO627
                              clear HO630
                              clear HO639
                              clear HO653
                              clear HO645
                              clear HB
                              clear HO648
                              have HO_0 := n0_
                              have HO_1 := n1_
                              have HO_7 := n2_
                              have HO627 := n3_
                              have HO630 := n4_
                              have HO639 := n5_
                              have HO653 := n6_
                              have HO645 := n7_
                              have HB := n8_
                              have HO656 := n9_
                              clear n0_ n1_ n2_ n3_ n4_ n5_ n6_ n7_ n8_ n9_
                              clear ho hb hg hat
                              refine hK.out _ _ trivial (fun hHeld => ?_)
                              clear hK K
                              refine norm_ (a' := ?_) ?_ ?_
                              rotate_left
                              · show Act.put _ (some 50) _ = _
                                simp only [Act.put, List.setIfInBounds_toArray, List.set_cons_zero, List.set_cons_succ, i64_w, i32_w]
                                rfl
                              refine pure_ (i := 12) (N := some 7) (v := ?_) (a' := ?_) #[true, true, true, true, true, true, true, true, true, true, true, true, true] rfl rfl (any_of HT_.out (by kernel_rfl)) (fun _ _ _ h => h) (Or.inl ⟨by rfl, ?_⟩) ?_ ?_
                              rotate_left
                              · intro w'
                                go_simp
                                with_reducible rfl
                              rotate_left
                              · simp only [Act.put, List.setIfInBounds_toArray, List.set_cons_zero, List.set_cons_succ, i64_w, i32_w]
                                rfl
                              refine done_ (done_of HT_.out (by kernel_rfl)) ?_
                              try go_wp2
                              go_roundg k2
                              case measure => have := HK1.out; have := HK2.out; omega
                              case rel => exact ⟨(y654), (wrap64 (x8_1 + 1)), (by first | rfl | (simp; done) | (simp [*]; done)), H', ⟨by have := HK1.out; have := HK2.out; omega⟩, ⟨by (with_reducible repeat (first | apply Kd.V_alloc | apply Kd.V_drewN | apply Kd.V_drew)); exact Kd.V_mono HO_0.out (fun _ hk => ⟨hk.1.1, hk.2⟩)⟩, ⟨by (with_reducible repeat (first | apply Kd.V_alloc | apply Kd.V_drewN | apply Kd.V_drew)); exact Kd.V_mono HO_1.out (fun _ hk => ⟨hk.1.1, hk.2⟩)⟩, ⟨by (with_reducible repeat (first | apply Kd.R_alloc | apply Kd.R_drewN | apply Kd.R_drew)); exact Kd.R_mono HO656.out (fun _ hk => hk.1)⟩, ⟨by repeat (first | (with_reducible first | exact HB.out | apply below_alloc | apply pw_below_drewN | apply below_drew1) | exact HB.out)⟩⟩
                            · rw [if_neg c25] at H
                              exact absurd H (by simp)
                          · rw [if_neg c22] at H
                            exact absurd H (by simp)
                        · rw [if_neg c21] at H
                          exact absurd H (by simp)
                      · rw [if_neg c20] at H
                        exact absurd H (by simp)
                    · rw [if_neg c19] at H
                      exact absurd H (by simp)
                · rw [if_neg c9] at H
                  exact absurd H (by simp)
              · rw [if_neg c8] at H
                exact absurd H (by simp)
            · rw [if_neg c6] at H
              have c6b0 : decide (0 < x9_2) = false := decide_eq_false c6
              clear c6
              obtain ⟨y657, hy657⟩ : ∃ y_ : List Int, y_ = (([] : List Int)) := ⟨_, rfl⟩
              replace H : (if 0 ≤ x9_2 then (if x9_2 ≤ (x7_1.length : Int) then ((some (x7_1.take (x9_2 : Int).toNat : List Int)).bind fun y660 => (if y657.length + y660.length < 17592186044416 then ((some (y657 ++ y660 : List Int)).bind fun y665 => ((some (([x8_1] : List Int) : List Int)).bind fun y668 => (if y665.length + y668.length < 17592186044416 then ((some (y665 ++ y668 : List Int)).bind fun y671 => ((some (x7_1.drop (x9_2 : Int).toNat : List Int)).bind fun y674 => (if y671.length + y674.length < 17592186044416 then (cordonref11_Sort.l0 k2 l0 l1 l2 (y671 ++ y674) (wrap64 (x8_1 + 1))) else (none)))) else (none)))) else (none))) else (none)) else (none)) = some r := by first | (rw [hy657]; with_reducible exact H) | (have H2_ := (Option.bind_some _ _).symm.trans H; rw [hy657]; with_reducible exact H2_) | (have H2_ := (Option.bind_some _ _).symm.trans H; with_reducible exact H2_) | with_reducible exact H | (rw [hy657]; exact H) | exact H
              have Ny657 := Aside0.mk hy657
              clear hy657
              by_cases c43 : 0 ≤ x9_2
              · rw [if_pos c43] at H
                have c43b0 := eq_true c43
                have c43b1 : decide (0 ≤ x9_2) = true := decide_eq_true c43
                clear c43
                by_cases c44 : x9_2 ≤ (x7_1.length : Int)
                · rw [if_pos c44] at H
                  have c44b0 := eq_true c44
                  have c44b1 : decide (x9_2 ≤ (x7_1.length : Int)) = true := decide_eq_true c44
                  clear c44
                  obtain ⟨y660, hy660⟩ : ∃ y_ : List Int, y_ = (x7_1.take (x9_2 : Int).toNat) := ⟨_, rfl⟩
                  replace H : (if y657.length + y660.length < 17592186044416 then ((some (y657 ++ y660 : List Int)).bind fun y665 => ((some (([x8_1] : List Int) : List Int)).bind fun y668 => (if y665.length + y668.length < 17592186044416 then ((some (y665 ++ y668 : List Int)).bind fun y671 => ((some (x7_1.drop (x9_2 : Int).toNat : List Int)).bind fun y674 => (if y671.length + y674.length < 17592186044416 then (cordonref11_Sort.l0 k2 l0 l1 l2 (y671 ++ y674) (wrap64 (x8_1 + 1))) else (none)))) else (none)))) else (none)) = some r := by first | (rw [hy660]; with_reducible exact H) | (have H2_ := (Option.bind_some _ _).symm.trans H; rw [hy660]; with_reducible exact H2_) | (have H2_ := (Option.bind_some _ _).symm.trans H; with_reducible exact H2_) | with_reducible exact H | (rw [hy660]; exact H) | exact H
                  have Ny660 := Aside0.mk hy660
                  clear hy660
                  by_cases c45 : y657.length + y660.length < 17592186044416
                  · rw [if_pos c45] at H
                    have LMc45 := Aside0.mk c45
                    clear c45
                    obtain ⟨y665, hy665⟩ : ∃ y_ : List Int, y_ = (y657 ++ y660) := ⟨_, rfl⟩
                    replace H : ((some (([x8_1] : List Int) : List Int)).bind fun y668 => (if y665.length + y668.length < 17592186044416 then ((some (y665 ++ y668 : List Int)).bind fun y671 => ((some (x7_1.drop (x9_2 : Int).toNat : List Int)).bind fun y674 => (if y671.length + y674.length < 17592186044416 then (cordonref11_Sort.l0 k2 l0 l1 l2 (y671 ++ y674) (wrap64 (x8_1 + 1))) else (none)))) else (none))) = some r := by first | (rw [hy665]; with_reducible exact H) | (have H2_ := (Option.bind_some _ _).symm.trans H; rw [hy665]; with_reducible exact H2_) | (have H2_ := (Option.bind_some _ _).symm.trans H; with_reducible exact H2_) | with_reducible exact H | (rw [hy665]; exact H) | exact H
                    have Ny665 := Aside0.mk hy665
                    clear hy665
                    obtain ⟨y668, hy668⟩ : ∃ y_ : List Int, y_ = (([x8_1] : List Int)) := ⟨_, rfl⟩
                    replace H : (if y665.length + y668.length < 17592186044416 then ((some (y665 ++ y668 : List Int)).bind fun y671 => ((some (x7_1.drop (x9_2 : Int).toNat : List Int)).bind fun y674 => (if y671.length + y674.length < 17592186044416 then (cordonref11_Sort.l0 k2 l0 l1 l2 (y671 ++ y674) (wrap64 (x8_1 + 1))) else (none)))) else (none)) = some r := by first | (rw [hy668]; with_reducible exact H) | (have H2_ := (Option.bind_some _ _).symm.trans H; rw [hy668]; with_reducible exact H2_) | (have H2_ := (Option.bind_some _ _).symm.trans H; with_reducible exact H2_) | with_reducible exact H | (rw [hy668]; exact H) | exact H
                    have Ny668 := Aside0.mk hy668
                    clear hy668
                    by_cases c46 : y665.length + y668.length < 17592186044416
                    · rw [if_pos c46] at H
                      have LMc46 := Aside0.mk c46
                      clear c46
                      obtain ⟨y671, hy671⟩ : ∃ y_ : List Int, y_ = (y665 ++ y668) := ⟨_, rfl⟩
                      replace H : ((some (x7_1.drop (x9_2 : Int).toNat : List Int)).bind fun y674 => (if y671.length + y674.length < 17592186044416 then (cordonref11_Sort.l0 k2 l0 l1 l2 (y671 ++ y674) (wrap64 (x8_1 + 1))) else (none))) = some r := by first | (rw [hy671]; with_reducible exact H) | (have H2_ := (Option.bind_some _ _).symm.trans H; rw [hy671]; with_reducible exact H2_) | (have H2_ := (Option.bind_some _ _).symm.trans H; with_reducible exact H2_) | with_reducible exact H | (rw [hy671]; exact H) | exact H
                      have Ny671 := Aside0.mk hy671
                      clear hy671
                      have c47b0 := eq_true (of_decide_eq_true (by first | (with_reducible assumption) | assumption) : 0 ≤ x9_2)
                      have c48b0 := eq_true (of_decide_eq_true (by first | (with_reducible assumption) | assumption) : x9_2 ≤ (x7_1.length : Int))
                      obtain ⟨y674, hy674⟩ : ∃ y_ : List Int, y_ = (x7_1.drop (x9_2 : Int).toNat) := ⟨_, rfl⟩
                      replace H : (if y671.length + y674.length < 17592186044416 then (cordonref11_Sort.l0 k2 l0 l1 l2 (y671 ++ y674) (wrap64 (x8_1 + 1))) else (none)) = some r := by first | (rw [hy674]; with_reducible exact H) | (have H2_ := (Option.bind_some _ _).symm.trans H; rw [hy674]; with_reducible exact H2_) | (have H2_ := (Option.bind_some _ _).symm.trans H; with_reducible exact H2_) | with_reducible exact H | (rw [hy674]; exact H) | exact H
                      have Ny674 := Aside0.mk hy674
                      clear hy674
                      by_cases c49 : y671.length + y674.length < 17592186044416
                      · rw [if_pos c49] at H
                        have LMc49 := Aside0.mk c49
                        clear c49
                        obtain ⟨y679, hy679⟩ : ∃ y_ : List Int, y_ = (y671 ++ y674) := ⟨_, rfl⟩
                        replace H : (cordonref11_Sort.l0 k2 l0 l1 l2 y679 (wrap64 (x8_1 + 1))) = some r := by first | (rw [hy679]; with_reducible exact H) | (have H2_ := (Option.bind_some _ _).symm.trans H; rw [hy679]; with_reducible exact H2_) | (have H2_ := (Option.bind_some _ _).symm.trans H; with_reducible exact H2_) | with_reducible exact H | (rw [hy679]; exact H) | exact H
                        have Ny679 := Aside0.mk hy679
                        clear hy679
                        have H' := Aside0.mk H
                        clear H
                        try go_wp2
                        have n0_ := Aside0.mk (Kd.V_drew HO_0.out)
                        have n1_ := Aside0.mk (Kd.V_drew HO_1.out)
                        have n2_ := Aside0.mk (Kd.R_drew HO_7.out)
                        have n3_ := Aside0.mk (below_drew1 HB.out)
                        clear HO_0
                        clear HO_1
                        clear HO_7
                        clear HB
                        have HO_0 := n0_
                        have HO_1 := n1_
                        have HO_7 := n2_
                        have HB := n3_
                        clear n0_ n1_ n2_ n3_
                        have q51 : (x9_2 : Int) ≤ ((x7_1.length : Int) : Int) := of_decide_eq_true (by first | (with_reducible assumption) | assumption)
                        obtain ⟨i051, hi051, _, hsz51, _⟩ := info_parts info3
                        have hroom51 : x7_1.length ≤ co5 := (Kd.R_reads' HO_7.out).2.1
                        have hC51 : Kd.F (Kd.int .i64) _ _ Ao5 x7_1.length x7_1 := (Kd.V_at (base := w.heap.size) (Kd.V_mono (ok' := (fun k_ => ((P0_ k_ ∨ P1_ k_) ∨ w.heap.size ≤ k_))) (Kd.R_V HO_7.out) (fun k_ hk => (.inr (hk))))).2.2
                        have hcut51 := cut_to (P := Try.prog) 23 3 .i64 Try.underlying23 hi051 Ao5 x7_1.length co5 x9_2 (of_decide_eq_true (by first | (with_reducible assumption) | assumption)) q51 hroom51
                        have hr51 := Kd.F_take (m := (x9_2 : Int).toNat) hC51 (by omega)
                        have hy51 : y660.length = (x9_2 : Int).toNat := (by rw [Ny660.out, List.length_take]; omega)
                        rw [← Ny660.out] at hr51
                        rw [← hy51] at hcut51
                        have HO664 := Aside0.mk (show Kd.V (Kd.int .i64) 3 _ w.heap.size _ (.slice Ao5 y660.length co5) y660 from Kd.V_mk (by omega) hr51)
                        have HC664 := Aside0.mk (show y660.length ≤ co5 from by omega)
                        clear hr51 hC51 hroom51 hi051 hsz51
                        have KY51 := Aside0.mk hy51
                        clear hy51
                        replace q51 := eq_true q51
                        have q52 : (x9_2 : Int) ≤ ((x7_1.length : Int) : Int) := of_decide_eq_true (by first | (with_reducible assumption) | assumption)
                        obtain ⟨i052, hi052, _, hsz52, _⟩ := info_parts info3
                        have hroom52 : x7_1.length ≤ co5 := (Kd.R_reads' HO_7.out).2.1
                        have hC52 : Kd.F (Kd.int .i64) _ _ Ao5 x7_1.length x7_1 := (Kd.V_at (base := w.heap.size) (Kd.V_mono (ok' := (fun k_ => ((P0_ k_ ∨ P1_ k_) ∨ w.heap.size ≤ k_))) (Kd.R_V HO_7.out) (fun k_ hk => (.inr (hk))))).2.2
                        have q052 : (0 : Int) ≤ (x9_2 : Int) := of_decide_eq_true (by first | (with_reducible assumption) | assumption)
                        have hcut52 := cut_from (P := Try.prog) 23 3 .i64 Try.underlying23 hi052 1 hsz52 Ao5 x7_1.length co5 x9_2 q052 q52
                        have hr52 := Kd.F_cut (m := (x9_2 : Int).toNat) (c := co5) hC52 (by omega) hroom52
                        obtain ⟨A52, hA52⟩ : ∃ A1, A1 = (if co5 = (x9_2 : Int).toNat then Ao5 else (Ao5 : Option Addr).map (·.add ((x9_2 : Int).toNat * 1))) := ⟨_, rfl⟩
                        obtain ⟨c52, hc52⟩ : ∃ c1, c1 = co5 - (x9_2 : Int).toNat := ⟨_, rfl⟩
                        have hy52 : y674.length = x7_1.length - (x9_2 : Int).toNat := (by rw [Ny674.out, List.length_drop] <;> omega)
                        rw [show (x7_1).drop (x9_2 : Int).toNat = y674 from Ny674.out.symm] at hr52
                        replace hr52 : Kd.F (Kd.int .i64) _ _ A52 y674.length y674 := (by rw [hA52]; exact hr52)
                        rw [← hy52, ← hA52, ← hc52] at hcut52
                        have HO678 := Aside0.mk (show Kd.V (Kd.int .i64) 3 _ w.heap.size _ (.slice A52 y674.length c52) y674 from Kd.V_mk (by rw [hy52, hc52]; exact Nat.sub_le_sub_right hroom52 _) hr52)
                        have HC678 := Aside0.mk (show y674.length ≤ c52 from by rw [hy52, hc52]; exact Nat.sub_le_sub_right hroom52 _)
                        clear hr52 hC52 hroom52 hi052 hsz52 hc52
                        have KY52 := Aside0.mk hy52
                        have KA52 := Aside0.mk hA52
                        clear hy52 hA52
                        replace q52 := eq_true q52
                        refine start_ (n := 13) (S := fun w' => True) (ds := []) #[false, false, false, false, false, false, false, false, false, false, false, false, false] (by kernel_rfl) rfl rfl trivial (fun hHeld => ?_); refine with_tabW cordonref11_Sort.tab8 cordonref11_Sort.bits8 (fun HT_ HW_ => ?_)
                        generalize wr.drew = w50 at HO_0 HO_1 HO_7 HB HO664 HO678 hHeld ⊢
                        refine pure_ (i := 1) (N := some 40) (v := ?_) (a' := ?_) #[false, true, false, false, false, false, false, false, false, false, false, false, false] rfl rfl (any_of HT_.out (by kernel_rfl)) (fun _ _ _ h => h) (Or.inl ⟨by rfl, ?_⟩) ?_ ?_
                        rotate_left
                        · intro w'
                          go_simp
                          with_reducible rfl
                        rotate_left
                        · simp only [Act.put, List.setIfInBounds_toArray, List.set_cons_zero, List.set_cons_succ, i64_w, i32_w]
                          rfl
                        refine pure_ (i := 2) (N := some 41) (v := ?_) (a' := ?_) #[false, true, true, false, false, false, false, false, false, false, false, false, false] rfl rfl (any_of HT_.out (by kernel_rfl)) (fun _ _ _ h => h) (Or.inl ⟨by rfl, ?_⟩) ?_ ?_
                        rotate_left
                        · intro w'
                          go_simp
                          with_reducible rfl
                        rotate_left
                        · simp only [Act.put, List.setIfInBounds_toArray, List.set_cons_zero, List.set_cons_succ, i64_w, i32_w]
                          rfl
                        refine pure_ (i := 3) (N := some 42) (v := ?_) (a' := ?_) #[false, true, true, true, false, false, false, false, false, false, false, false, false] rfl rfl (any_of HT_.out (by kernel_rfl)) (fun _ _ _ h => h) (Or.inl ⟨by rfl, ?_⟩) ?_ ?_
                        rotate_left
                        · intro w'
                          go_simp
                          with_reducible rfl
                        rotate_left
                        · simp only [Act.put, List.setIfInBounds_toArray, List.set_cons_zero, List.set_cons_succ, i64_w, i32_w]
                          rfl
                        refine pure_ (i := 5) (N := some 44) (v := ?_) (a' := ?_) #[false, true, true, true, false, true, false, false, false, false, false, false, false] rfl rfl (any_of HT_.out (by kernel_rfl)) (fun _ _ _ h => h) (Or.inl ⟨by rfl, ?_⟩) ?_ ?_
                        rotate_left
                        · intro w'
                          go_simp
                          with_reducible rfl
                        rotate_left
                        · simp only [Act.put, List.setIfInBounds_toArray, List.set_cons_zero, List.set_cons_succ, i64_w, i32_w]
                          rfl
                        refine pure_ (i := 8) (N := some 47) (v := ?_) (a' := ?_) #[false, true, true, true, false, true, false, false, true, false, false, false, false] rfl rfl (any_of HT_.out (by kernel_rfl)) (fun _ _ _ h => h) (Or.inl ⟨by rfl, ?_⟩) ?_ ?_
                        rotate_left
                        · intro w'
                          go_simp
                          with_reducible rfl
                        rotate_left
                        · simp only [Act.put, List.setIfInBounds_toArray, List.set_cons_zero, List.set_cons_succ, i64_w, i32_w]
                          rfl
                        refine pure_ (i := 9) (N := some 48) (v := ?_) (a' := ?_) #[false, true, true, true, false, true, false, false, true, true, false, false, false] rfl rfl (any_of HT_.out (by kernel_rfl)) (fun _ _ _ h => h) (Or.inl ⟨by rfl, ?_⟩) ?_ ?_
                        rotate_left
                        · intro w'
                          go_simp
                          with_reducible rfl
                        rotate_left
                        · simp only [Act.put, List.setIfInBounds_toArray, List.set_cons_zero, List.set_cons_succ, i64_w, i32_w]
                          rfl
                        refine pure_ (i := 10) (N := some 49) (v := ?_) (a' := ?_) #[false, true, true, true, false, true, false, false, true, true, true, false, false] rfl rfl (any_of HT_.out (by kernel_rfl)) (fun _ _ _ h => h) (Or.inl ⟨by rfl, ?_⟩) ?_ ?_
                        rotate_left
                        · intro w'
                          go_simp
                          with_reducible rfl
                        rotate_left
                        · simp only [Act.put, List.setIfInBounds_toArray, List.set_cons_zero, List.set_cons_succ, i64_w, i32_w]
                          rfl
                        refine join_ (σ := Value × Value × Value) 3 #[true, true, true, true, true, true, true, false, true, true, true, false, false] (fun s_ => [(39, s_.1), (43, s_.2.1), (45, s_.2.2)]) (fun s_ w' => (Kd.V (Kd.int .i64) 3 w' w.heap.size (fun k_ => ((P0_ k_ ∨ P1_ k_) ∨ w.heap.size ≤ k_) ∧ some k_ ≠ (s_.2.1 : Value).ownBlock ∧ some k_ ≠ (s_.2.2 : Value).ownBlock) (.slice Ao5 y660.length co5) y660) ∧ (Kd.R (Kd.int .i64) 3 w' w.heap.size (fun k_ => (w.heap.size ≤ k_) ∧ some k_ ≠ (s_.2.2 : Value).ownBlock ∧ some k_ ≠ (.slice Ao5 x7_1.length co5 : Value).ownBlock) s_.2.1 y665) ∧ (Kd.R (Kd.int .i64) 3 w' w.heap.size (fun k_ => (w.heap.size ≤ k_) ∧ some k_ ≠ (s_.2.1 : Value).ownBlock ∧ some k_ ≠ (.slice Ao5 x7_1.length co5 : Value).ownBlock) s_.2.2 y668) ∧ (Kd.V (Kd.int .i64) 3 w' w.heap.size (fun k_ => ((P0_ k_ ∨ P1_ k_) ∨ w.heap.size ≤ k_) ∧ some k_ ≠ (s_.2.1 : Value).ownBlock ∧ some k_ ≠ (s_.2.2 : Value).ownBlock) (.slice A52 y674.length c52) y674) ∧ (Kd.V (Kd.slice 33 k33) 22 w' w.heap.size (fun k_ => ((P0_ k_ ∨ P1_ k_) ∨ w.heap.size ≤ k_) ∧ some k_ ≠ (s_.2.1 : Value).ownBlock ∧ some k_ ≠ (s_.2.2 : Value).ownBlock ∧ some k_ ≠ (.slice Ao5 x7_1.length co5 : Value).ownBlock) (.slice A0 l0.length c0) l0) ∧ (Kd.V (Kd.slice 33 k33) 22 w' w.heap.size (fun k_ => ((P0_ k_ ∨ P1_ k_) ∨ w.heap.size ≤ k_) ∧ some k_ ≠ (s_.2.1 : Value).ownBlock ∧ some k_ ≠ (s_.2.2 : Value).ownBlock ∧ some k_ ≠ (.slice Ao5 x7_1.length co5 : Value).ownBlock) (.slice A1 l1.length c1) l1) ∧ (Kd.R (Kd.int .i64) 3 w' w.heap.size (fun k_ => (w.heap.size ≤ k_) ∧ some k_ ≠ (s_.2.1 : Value).ownBlock ∧ some k_ ≠ (s_.2.2 : Value).ownBlock) (.slice Ao5 x7_1.length co5) x7_1) ∧ (Below w.heap.size w w')) ?_ ?_
                        rotate_left
                        · intro hCont
                          refine two_ (i := 0) (j := 6) (Ni := some 39) (Nj := some 45) #[true, true, true, true, false, true, false, false, true, true, true, false, false] #[false, true, true, true, false, true, true, false, true, true, true, false, false] rfl rfl rfl rfl (two_of HT_.out (by kernel_rfl)) (by decide) (by decide) (fun K hK => ?_) (fun K hK => ?_)
                          · skip
                            refine Kd.R_lit_step (Kd.int .i64) _ 3 ?hg (N := 39) ?hd (xs := ([] : List Int)) (inner := []) (ok := fun _ => True) (okp := fun _ => True) ?hr ?hp (fun _ hk => hk) trivial (Below.refl _ _) (Nat.le_refl _) (by simp) ?_; (case hd => rfl); (case hg => rfl); (case hr => first | (go_simp; done) | (go_simp; rfl)); (case hp => exact (Reps.none _ _))
                            intro v658 w53 ho54 hb hg_ hnew_
                            clear hg_ hnew_
                            (first | rw [← Ny657.out] at ho54 | (simp only [Int.reduceToNat] at ho54; rw [← Ny657.out] at ho54))
                            have n0_ := Aside0.mk (Kd.V_elder' (by (with_reducible repeat (first | apply Kd.V_alloc | apply Kd.V_drewN | apply Kd.V_drew)); exact HO_0.out) (Kd.R_base ho54) hb)
                            have n1_ := Aside0.mk (Kd.V_elder' (by (with_reducible repeat (first | apply Kd.V_alloc | apply Kd.V_drewN | apply Kd.V_drew)); exact HO_1.out) (Kd.R_base ho54) hb)
                            have n2_ := Aside0.mk (Kd.R_elder' (by (with_reducible repeat (first | apply Kd.R_alloc | apply Kd.R_drewN | apply Kd.R_drew)); exact HO_7.out) (Kd.R_base ho54) hb)
                            have n3_ := Aside0.mk (Kd.V_elder' (by (with_reducible repeat (first | apply Kd.V_alloc | apply Kd.V_drewN | apply Kd.V_drew)); exact HO664.out) (Kd.R_base ho54) hb)
                            have n4_ := Aside0.mk (Kd.V_elder' (by (with_reducible repeat (first | apply Kd.V_alloc | apply Kd.V_drewN | apply Kd.V_drew)); exact HO678.out) (Kd.R_base ho54) hb)
                            have n5_ := Aside0.mk (Kd.R_lower (Kd.R_new' (Kd.R_newM (M := fun k_ => (w.heap.size ≤ k_)) ho54 (below_size (by repeat (first | (with_reducible first | exact HB.out | apply below_alloc | apply pw_below_drewN | apply below_drew1) | exact HB.out))) (fun k_ h_ => h_)) (Kd.R_lt (by (with_reducible repeat (first | apply Kd.R_alloc | apply Kd.R_drewN | apply Kd.R_drew)); exact HO_7.out))) (below_size (by repeat (first | (with_reducible first | exact HB.out | apply below_alloc | apply pw_below_drewN | apply below_drew1) | exact HB.out))))
                            have n6_ := Aside0.mk (below_step (by repeat (first | (with_reducible first | exact HB.out | apply below_alloc | apply pw_below_drewN | apply below_drew1) | exact HB.out)) hb)
                            clear HO_0
                            clear HO_1
                            clear HO_7
                            clear HO664
                            clear HO678
                            clear HB
                            have HO_0 := n0_
                            have HO_1 := n1_
                            have HO_7 := n2_
                            have HO664 := n3_
                            have HO678 := n4_
                            have HO659 := n5_
                            have HB := n6_
                            clear n0_ n1_ n2_ n3_ n4_ n5_ n6_
                            clear hb ho54
                            refine hK.out _ _ trivial (fun hHeld => ?_)
                            clear hK K
                            refine norm_ (a' := ?_) ?_ ?_
                            rotate_left
                            · show Act.put _ (some 39) _ = _
                              simp only [Act.put, List.setIfInBounds_toArray, List.set_cons_zero, List.set_cons_succ, i64_w, i32_w]
                              rfl
                            refine two_ (i := 4) (j := 6) (Ni := some 43) (Nj := some 45) #[true, true, true, true, true, true, false, false, true, true, true, false, false] #[true, true, true, true, false, true, true, false, true, true, true, false, false] rfl rfl rfl rfl (two_of HT_.out (by kernel_rfl)) (by decide) (by decide) (fun K hK => ?_) (fun K hK => ?_)
                            · skip
                              refine Kd.R_append_rows_step (Kd.int .i64) (w0 := w) w.heap.size (by rfl) (.tmp 39) (.tmp 42) 23 3 (.int .i64 0) 8 rfl Try.underlying23 info3 rfl (by decide) (by omega) v658 y657 y660 _ _ _ (fun k_ => (w.heap.size ≤ k_) ∧ some k_ ≠ (.slice Ao5 x7_1.length co5 : Value).ownBlock) (fun _ => False) rfl rfl ?aO ?aR (fun _ _ h => h) (fun _ h => h.elim) ?aF ?aB ?aS ?aL ?_
                              (case aR => repeat (first | exact (Kd.V_reads' HO664.out).2.2 | (with_reducible refine Kd.C_alloc ?_ _) | (with_reducible refine Kd.C_drewN ?_ _) | (with_reducible refine Kd.C_drew ?_)))
                              (case aB => exact (by repeat (first | (with_reducible first | exact HB.out | apply below_alloc | apply pw_below_drewN | apply below_drew1) | exact HB.out)))
                              (case aF => exact (fun k_ hk => ⟨(Nat.le_trans (below_size (by repeat (first | (with_reducible first | exact HB.out | apply below_alloc | apply pw_below_drewN | apply below_drew1) | exact HB.out))) hk), Kd.fresh' (Kd.R_lt (by (with_reducible repeat (first | apply Kd.R_alloc | apply Kd.R_drewN | apply Kd.R_drew)); exact HO_7.out)) k_ hk⟩))
                              (case aO => exact (by (with_reducible repeat (first | apply Kd.R_alloc | apply Kd.R_drewN | apply Kd.R_drew)); exact Kd.R_mono HO659.out (fun _ hk => ⟨hk.1.1, hk.2⟩)))
                              (case aS => exact (below_size (by repeat (first | (with_reducible first | exact HB.out | apply below_alloc | apply pw_below_drewN | apply below_drew1) | exact HB.out))))
                              (case aL => have := LMc45.out; omega)
                              intro v666 w55 ho hb hg hat
                              rw [← Ny665.out] at ho
                              have n0_ := Aside0.mk (Kd.V_afterv (ok := (fun k_ => ((P0_ k_ ∨ P1_ k_) ∨ w.heap.size ≤ k_) ∧ some k_ ≠ (.slice Ao5 x7_1.length co5 : Value).ownBlock)) (by (with_reducible repeat (first | apply Kd.V_alloc | apply Kd.V_drewN | apply Kd.V_drew)); exact HO_0.out) hg hat)
                              have n1_ := Aside0.mk (Kd.V_afterv (ok := (fun k_ => ((P0_ k_ ∨ P1_ k_) ∨ w.heap.size ≤ k_) ∧ some k_ ≠ (.slice Ao5 x7_1.length co5 : Value).ownBlock)) (by (with_reducible repeat (first | apply Kd.V_alloc | apply Kd.V_drewN | apply Kd.V_drew)); exact HO_1.out) hg hat)
                              have n2_ := Aside0.mk (Kd.R_after (ok := (fun k_ => (w.heap.size ≤ k_))) (by (with_reducible repeat (first | apply Kd.R_alloc | apply Kd.R_drewN | apply Kd.R_drew)); exact HO_7.out) hg hat)
                              have n3_ := Aside0.mk (Kd.V_afterv (ok := (fun k_ => ((P0_ k_ ∨ P1_ k_) ∨ w.heap.size ≤ k_))) (by (with_reducible repeat (first | apply Kd.V_alloc | apply Kd.V_drewN | apply Kd.V_drew)); exact HO664.out) hg hat)
                              have n4_ := Aside0.mk (Kd.V_afterv (ok := (fun k_ => ((P0_ k_ ∨ P1_ k_) ∨ w.heap.size ≤ k_))) (by (with_reducible repeat (first | apply Kd.V_alloc | apply Kd.V_drewN | apply Kd.V_drew)); exact HO678.out) hg hat)
                              have n5_ := Aside0.mk (hb)
                              have n6_ := Aside0.mk (ho)
                              clear HO_0
                              clear HO_1
                              clear HO_7
                              clear HO664
                              clear HO678
                              clear HB
                              clear HO659
                              have HO_0 := n0_
                              have HO_1 := n1_
                              have HO_7 := n2_
                              have HO664 := n3_
                              have HO678 := n4_
                              have HB := n5_
                              have HO667 := n6_
                              clear n0_ n1_ n2_ n3_ n4_ n5_ n6_
                              clear ho hb hg hat
                              refine hK.out _ _ trivial (fun hHeld => ?_)
                              clear hK K
                              refine norm_ (a' := ?_) ?_ ?_
                              rotate_left
                              · show Act.put _ (some 43) _ = _
                                simp only [Act.put, List.setIfInBounds_toArray, List.set_cons_zero, List.set_cons_succ, i64_w, i32_w]
                                rfl
                              refine one_ (i := 6) (N := some 45) #[true, true, true, true, true, true, true, false, true, true, true, false, false] rfl rfl (one_of HT_.out (by kernel_rfl)) (by decide) (fun K hK => ?_)
                              refine Kd.R_lit_step (Kd.int .i64) _ 3 ?hg (N := 45) ?hd (xs := ([x8_1] : List Int)) (inner := [.int .i64 x8_1]) (ok := fun _ => True) (okp := fun _ => True) ?hr ?hp (fun _ hk => hk) trivial (Below.refl _ _) (Nat.le_refl _) (by simp) ?_; (case hd => rfl); (case hg => rfl); (case hr => first | (go_simp; done) | (go_simp; rfl)); (case hp => exact (Reps.one (show Kd.M (Kd.int .i64) _ _ _ x8_1 [.int .i64 x8_1] from rfl) (Reps.none _ _)))
                              intro v669 w56 ho57 hb hg_ hnew_
                              clear hg_ hnew_
                              (first | rw [← Ny668.out] at ho57 | (simp only [Int.reduceToNat] at ho57; rw [← Ny668.out] at ho57))
                              have n0_ := Aside0.mk (Kd.V_elder' (by (with_reducible repeat (first | apply Kd.V_alloc | apply Kd.V_drewN | apply Kd.V_drew)); exact HO_0.out) (Kd.R_base ho57) hb)
                              have n1_ := Aside0.mk (Kd.V_elder' (by (with_reducible repeat (first | apply Kd.V_alloc | apply Kd.V_drewN | apply Kd.V_drew)); exact HO_1.out) (Kd.R_base ho57) hb)
                              have n2_ := Aside0.mk (Kd.R_elder' (by (with_reducible repeat (first | apply Kd.R_alloc | apply Kd.R_drewN | apply Kd.R_drew)); exact HO_7.out) (Kd.R_base ho57) hb)
                              have n3_ := Aside0.mk (Kd.V_elder' (by (with_reducible repeat (first | apply Kd.V_alloc | apply Kd.V_drewN | apply Kd.V_drew)); exact HO664.out) (Kd.R_base ho57) hb)
                              have n4_ := Aside0.mk (Kd.V_elder' (by (with_reducible repeat (first | apply Kd.V_alloc | apply Kd.V_drewN | apply Kd.V_drew)); exact HO678.out) (Kd.R_base ho57) hb)
                              have n5_ := Aside0.mk (Kd.R_elder' (by (with_reducible repeat (first | apply Kd.R_alloc | apply Kd.R_drewN | apply Kd.R_drew)); exact HO667.out) (Kd.R_base ho57) hb)
                              have n6_ := Aside0.mk (Kd.R_lower (Kd.R_new' (Kd.R_new' (Kd.R_newM (M := fun k_ => (w.heap.size ≤ k_)) ho57 (below_size (by repeat (first | (with_reducible first | exact HB.out | apply below_alloc | apply pw_below_drewN | apply below_drew1) | exact HB.out))) (fun k_ h_ => h_)) (Kd.R_lt (by (with_reducible repeat (first | apply Kd.R_alloc | apply Kd.R_drewN | apply Kd.R_drew)); exact HO_7.out))) (Kd.R_lt (by (with_reducible repeat (first | apply Kd.R_alloc | apply Kd.R_drewN | apply Kd.R_drew)); exact HO667.out))) (below_size (by repeat (first | (with_reducible first | exact HB.out | apply below_alloc | apply pw_below_drewN | apply below_drew1) | exact HB.out))))
                              have n7_ := Aside0.mk (below_step (by repeat (first | (with_reducible first | exact HB.out | apply below_alloc | apply pw_below_drewN | apply below_drew1) | exact HB.out)) hb)
                              clear HO_0
                              clear HO_1
                              clear HO_7
                              clear HO664
                              clear HO678
                              clear HO667
                              clear HB
                              have HO_0 := n0_
                              have HO_1 := n1_
                              have HO_7 := n2_
                              have HO664 := n3_
                              have HO678 := n4_
                              have HO667 := n5_
                              have HO670 := n6_
                              have HB := n7_
                              clear n0_ n1_ n2_ n3_ n4_ n5_ n6_ n7_
                              clear hb ho57
                              refine hK.out _ _ trivial (fun hHeld => ?_)
                              clear hK K
                              refine norm_ (a' := ?_) ?_ ?_
                              rotate_left
                              · show Act.put _ (some 45) _ = _
                                simp only [Act.put, List.setIfInBounds_toArray, List.set_cons_zero, List.set_cons_succ, i64_w, i32_w]
                                rfl
                              exact norm_ (by simp only [putAll, Act.put, List.setIfInBounds_toArray, List.set_cons_zero, List.set_cons_succ]) (hCont (v658, v666, v669) _ ⟨(by (with_reducible repeat (first | apply Kd.V_alloc | apply Kd.V_drewN | apply Kd.V_drew)); exact Kd.V_mono HO664.out (fun _ hk => ⟨hk.1.1, ⟨hk.1.2, hk.2⟩⟩)), (by (with_reducible repeat (first | apply Kd.R_alloc | apply Kd.R_drewN | apply Kd.R_drew)); exact Kd.R_mono HO667.out (fun _ hk => ⟨hk.1.1, ⟨hk.2, hk.1.2⟩⟩)), (by (with_reducible repeat (first | apply Kd.R_alloc | apply Kd.R_drewN | apply Kd.R_drew)); exact Kd.R_mono HO670.out (fun _ hk => ⟨hk.1.1.1, ⟨hk.2, hk.1.2⟩⟩)), (by (with_reducible repeat (first | apply Kd.V_alloc | apply Kd.V_drewN | apply Kd.V_drew)); exact Kd.V_mono HO678.out (fun _ hk => ⟨hk.1.1, ⟨hk.1.2, hk.2⟩⟩)), (by (with_reducible repeat (first | apply Kd.V_alloc | apply Kd.V_drewN | apply Kd.V_drew)); exact Kd.V_mono HO_0.out (fun _ hk => ⟨hk.1.1.1, ⟨hk.1.2, ⟨hk.2, hk.1.1.2⟩⟩⟩)), (by (with_reducible repeat (first | apply Kd.V_alloc | apply Kd.V_drewN | apply Kd.V_drew)); exact Kd.V_mono HO_1.out (fun _ hk => ⟨hk.1.1.1, ⟨hk.1.2, ⟨hk.2, hk.1.1.2⟩⟩⟩)), (by (with_reducible repeat (first | apply Kd.R_alloc | apply Kd.R_drewN | apply Kd.R_drew)); exact Kd.R_mono HO_7.out (fun _ hk => ⟨hk.1.1, ⟨hk.1.2, hk.2⟩⟩)), (by repeat (first | (with_reducible first | exact HB.out | apply below_alloc | apply pw_below_drewN | apply below_drew1) | exact HB.out))⟩)
                            · skip
                              refine Kd.R_lit_step (Kd.int .i64) _ 3 ?hg (N := 45) ?hd (xs := ([x8_1] : List Int)) (inner := [.int .i64 x8_1]) (ok := fun _ => True) (okp := fun _ => True) ?hr ?hp (fun _ hk => hk) trivial (Below.refl _ _) (Nat.le_refl _) (by simp) ?_; (case hd => rfl); (case hg => rfl); (case hr => first | (go_simp; done) | (go_simp; rfl)); (case hp => exact (Reps.one (show Kd.M (Kd.int .i64) _ _ _ x8_1 [.int .i64 x8_1] from rfl) (Reps.none _ _)))
                              intro v669 w55 ho56 hb hg_ hnew_
                              clear hg_ hnew_
                              (first | rw [← Ny668.out] at ho56 | (simp only [Int.reduceToNat] at ho56; rw [← Ny668.out] at ho56))
                              have n0_ := Aside0.mk (Kd.V_elder' (by (with_reducible repeat (first | apply Kd.V_alloc | apply Kd.V_drewN | apply Kd.V_drew)); exact HO_0.out) (Kd.R_base ho56) hb)
                              have n1_ := Aside0.mk (Kd.V_elder' (by (with_reducible repeat (first | apply Kd.V_alloc | apply Kd.V_drewN | apply Kd.V_drew)); exact HO_1.out) (Kd.R_base ho56) hb)
                              have n2_ := Aside0.mk (Kd.R_elder' (by (with_reducible repeat (first | apply Kd.R_alloc | apply Kd.R_drewN | apply Kd.R_drew)); exact HO_7.out) (Kd.R_base ho56) hb)
                              have n3_ := Aside0.mk (Kd.V_elder' (by (with_reducible repeat (first | apply Kd.V_alloc | apply Kd.V_drewN | apply Kd.V_drew)); exact HO664.out) (Kd.R_base ho56) hb)
                              have n4_ := Aside0.mk (Kd.V_elder' (by (with_reducible repeat (first | apply Kd.V_alloc | apply Kd.V_drewN | apply Kd.V_drew)); exact HO678.out) (Kd.R_base ho56) hb)
                              have n5_ := Aside0.mk (Kd.R_elder' (by (with_reducible repeat (first | apply Kd.R_alloc | apply Kd.R_drewN | apply Kd.R_drew)); exact HO659.out) (Kd.R_base ho56) hb)
                              have n6_ := Aside0.mk (Kd.R_lower (Kd.R_new' (Kd.R_new' (Kd.R_newM (M := fun k_ => (w.heap.size ≤ k_)) ho56 (below_size (by repeat (first | (with_reducible first | exact HB.out | apply below_alloc | apply pw_below_drewN | apply below_drew1) | exact HB.out))) (fun k_ h_ => h_)) (Kd.R_lt (by (with_reducible repeat (first | apply Kd.R_alloc | apply Kd.R_drewN | apply Kd.R_drew)); exact HO_7.out))) (Kd.R_lt (by (with_reducible repeat (first | apply Kd.R_alloc | apply Kd.R_drewN | apply Kd.R_drew)); exact HO659.out))) (below_size (by repeat (first | (with_reducible first | exact HB.out | apply below_alloc | apply pw_below_drewN | apply below_drew1) | exact HB.out))))
                              have n7_ := Aside0.mk (below_step (by repeat (first | (with_reducible first | exact HB.out | apply below_alloc | apply pw_below_drewN | apply below_drew1) | exact HB.out)) hb)
                              clear HO_0
                              clear HO_1
                              clear HO_7
                              clear HO664
                              clear HO678
                              clear HO659
                              clear HB
                              have HO_0 := n0_
                              have HO_1 := n1_
                              have HO_7 := n2_
                              have HO664 := n3_
                              have HO678 := n4_
                              have HO659 := n5_
                              have HO670 := n6_
                              have HB := n7_
                              clear n0_ n1_ n2_ n3_ n4_ n5_ n6_ n7_
                              clear hb ho56
                              refine hK.out _ _ trivial (fun hHeld => ?_)
                              clear hK K
                              refine norm_ (a' := ?_) ?_ ?_
                              rotate_left
                              · show Act.put _ (some 45) _ = _
                                simp only [Act.put, List.setIfInBounds_toArray, List.set_cons_zero, List.set_cons_succ, i64_w, i32_w]
                                rfl
                              refine one_ (i := 4) (N := some 43) #[true, true, true, true, true, true, true, false, true, true, true, false, false] rfl rfl (one_of HT_.out (by kernel_rfl)) (by decide) (fun K hK => ?_)
                              refine Kd.R_append_rows_step (Kd.int .i64) (w0 := w) w.heap.size (by rfl) (.tmp 39) (.tmp 42) 23 3 (.int .i64 0) 8 rfl Try.underlying23 info3 rfl (by decide) (by omega) v658 y657 y660 _ _ _ (fun k_ => (w.heap.size ≤ k_) ∧ some k_ ≠ (.slice Ao5 x7_1.length co5 : Value).ownBlock ∧ some k_ ≠ (v669 : Value).ownBlock) (fun _ => False) rfl rfl ?aO ?aR (fun _ _ h => h) (fun _ h => h.elim) ?aF ?aB ?aS ?aL ?_
                              (case aR => repeat (first | exact (Kd.V_reads' HO664.out).2.2 | (with_reducible refine Kd.C_alloc ?_ _) | (with_reducible refine Kd.C_drewN ?_ _) | (with_reducible refine Kd.C_drew ?_)))
                              (case aB => exact (by repeat (first | (with_reducible first | exact HB.out | apply below_alloc | apply pw_below_drewN | apply below_drew1) | exact HB.out)))
                              (case aF => exact (fun k_ hk => ⟨(Nat.le_trans (below_size (by repeat (first | (with_reducible first | exact HB.out | apply below_alloc | apply pw_below_drewN | apply below_drew1) | exact HB.out))) hk), Kd.fresh' (Kd.R_lt (by (with_reducible repeat (first | apply Kd.R_alloc | apply Kd.R_drewN | apply Kd.R_drew)); exact HO_7.out)) k_ hk, Kd.fresh' (Kd.R_lt (by (with_reducible repeat (first | apply Kd.R_alloc | apply Kd.R_drewN | apply Kd.R_drew)); exact HO670.out)) k_ hk⟩))
                              (case aO => exact (by (with_reducible repeat (first | apply Kd.R_alloc | apply Kd.R_drewN | apply Kd.R_drew)); exact Kd.R_mono HO659.out (fun _ hk => ⟨hk.1.1.1, ⟨hk.1.2, hk.2⟩⟩)))
                              (case aS => exact (below_size (by repeat (first | (with_reducible first | exact HB.out | apply below_alloc | apply pw_below_drewN | apply below_drew1) | exact HB.out))))
                              (case aL => have := LMc45.out; omega)
                              intro v666 w57 ho hb hg hat
                              rw [← Ny665.out] at ho
                              have n0_ := Aside0.mk (Kd.V_afterv (ok := (fun k_ => ((P0_ k_ ∨ P1_ k_) ∨ w.heap.size ≤ k_) ∧ some k_ ≠ (.slice Ao5 x7_1.length co5 : Value).ownBlock ∧ some k_ ≠ (v669 : Value).ownBlock)) (by (with_reducible repeat (first | apply Kd.V_alloc | apply Kd.V_drewN | apply Kd.V_drew)); exact Kd.V_mono HO_0.out (fun _ hk => ⟨⟨hk.1.1.1, ⟨hk.1.1.2, hk.2⟩⟩, hk.1.2⟩)) hg hat)
                              have n1_ := Aside0.mk (Kd.V_afterv (ok := (fun k_ => ((P0_ k_ ∨ P1_ k_) ∨ w.heap.size ≤ k_) ∧ some k_ ≠ (.slice Ao5 x7_1.length co5 : Value).ownBlock ∧ some k_ ≠ (v669 : Value).ownBlock)) (by (with_reducible repeat (first | apply Kd.V_alloc | apply Kd.V_drewN | apply Kd.V_drew)); exact Kd.V_mono HO_1.out (fun _ hk => ⟨⟨hk.1.1.1, ⟨hk.1.1.2, hk.2⟩⟩, hk.1.2⟩)) hg hat)
                              have n2_ := Aside0.mk (Kd.R_after (ok := (fun k_ => (w.heap.size ≤ k_) ∧ some k_ ≠ (v669 : Value).ownBlock)) (by (with_reducible repeat (first | apply Kd.R_alloc | apply Kd.R_drewN | apply Kd.R_drew)); exact Kd.R_mono HO_7.out (fun _ hk => ⟨⟨hk.1.1, hk.2⟩, hk.1.2⟩)) hg hat)
                              have n3_ := Aside0.mk (Kd.V_afterv (ok := (fun k_ => ((P0_ k_ ∨ P1_ k_) ∨ w.heap.size ≤ k_) ∧ some k_ ≠ (v669 : Value).ownBlock)) (by (with_reducible repeat (first | apply Kd.V_alloc | apply Kd.V_drewN | apply Kd.V_drew)); exact Kd.V_mono HO664.out (fun _ hk => ⟨⟨hk.1.1, hk.2⟩, hk.1.2⟩)) hg hat)
                              have n4_ := Aside0.mk (Kd.V_afterv (ok := (fun k_ => ((P0_ k_ ∨ P1_ k_) ∨ w.heap.size ≤ k_) ∧ some k_ ≠ (v669 : Value).ownBlock)) (by (with_reducible repeat (first | apply Kd.V_alloc | apply Kd.V_drewN | apply Kd.V_drew)); exact Kd.V_mono HO678.out (fun _ hk => ⟨⟨hk.1.1, hk.2⟩, hk.1.2⟩)) hg hat)
                              have n5_ := Aside0.mk (Kd.R_after (ok := (fun k_ => (w.heap.size ≤ k_) ∧ some k_ ≠ (.slice Ao5 x7_1.length co5 : Value).ownBlock)) (by (with_reducible repeat (first | apply Kd.R_alloc | apply Kd.R_drewN | apply Kd.R_drew)); exact Kd.R_mono HO670.out (fun _ hk => ⟨⟨hk.1.1.1, hk.1.2⟩, hk.2⟩)) hg hat)
                              have n6_ := Aside0.mk (hb)
                              have n7_ := Aside0.mk (ho)
                              clear HO_0
                              clear HO_1
                              clear HO_7
                              clear HO664
                              clear HO678
                              clear HO670
                              clear HB
                              clear HO659
                              have HO_0 := n0_
                              have HO_1 := n1_
                              have HO_7 := n2_
                              have HO664 := n3_
                              have HO678 := n4_
                              have HO670 := n5_
                              have HB := n6_
                              have HO667 := n7_
                              clear n0_ n1_ n2_ n3_ n4_ n5_ n6_ n7_
                              clear ho hb hg hat
                              refine hK.out _ _ trivial (fun hHeld => ?_)
                              clear hK K
                              refine norm_ (a' := ?_) ?_ ?_
                              rotate_left
                              · show Act.put _ (some 43) _ = _
                                simp only [Act.put, List.setIfInBounds_toArray, List.set_cons_zero, List.set_cons_succ, i64_w, i32_w]
                                rfl
                              exact norm_ (by simp only [putAll, Act.put, List.setIfInBounds_toArray, List.set_cons_zero, List.set_cons_succ]) (hCont (v658, v666, v669) _ ⟨(by (with_reducible repeat (first | apply Kd.V_alloc | apply Kd.V_drewN | apply Kd.V_drew)); exact Kd.V_mono HO664.out (fun _ hk => ⟨hk.1.1, ⟨hk.2, hk.1.2⟩⟩)), (by (with_reducible repeat (first | apply Kd.R_alloc | apply Kd.R_drewN | apply Kd.R_drew)); exact Kd.R_mono HO667.out (fun _ hk => ⟨hk.1, ⟨hk.2.2, hk.2.1⟩⟩)), (by (with_reducible repeat (first | apply Kd.R_alloc | apply Kd.R_drewN | apply Kd.R_drew)); exact Kd.R_mono HO670.out (fun _ hk => ⟨hk.1.1, ⟨hk.2, hk.1.2⟩⟩)), (by (with_reducible repeat (first | apply Kd.V_alloc | apply Kd.V_drewN | apply Kd.V_drew)); exact Kd.V_mono HO678.out (fun _ hk => ⟨hk.1.1, ⟨hk.2, hk.1.2⟩⟩)), (by (with_reducible repeat (first | apply Kd.V_alloc | apply Kd.V_drewN | apply Kd.V_drew)); exact Kd.V_mono HO_0.out (fun _ hk => ⟨hk.1.1, ⟨hk.2, ⟨hk.1.2.2, hk.1.2.1⟩⟩⟩)), (by (with_reducible repeat (first | apply Kd.V_alloc | apply Kd.V_drewN | apply Kd.V_drew)); exact Kd.V_mono HO_1.out (fun _ hk => ⟨hk.1.1, ⟨hk.2, ⟨hk.1.2.2, hk.1.2.1⟩⟩⟩)), (by (with_reducible repeat (first | apply Kd.R_alloc | apply Kd.R_drewN | apply Kd.R_drew)); exact Kd.R_mono HO_7.out (fun _ hk => ⟨hk.1.1, ⟨hk.2, hk.1.2⟩⟩)), (by repeat (first | (with_reducible first | exact HB.out | apply below_alloc | apply pw_below_drewN | apply below_drew1) | exact HB.out))⟩)
                          · skip
                            refine Kd.R_lit_step (Kd.int .i64) _ 3 ?hg (N := 45) ?hd (xs := ([x8_1] : List Int)) (inner := [.int .i64 x8_1]) (ok := fun _ => True) (okp := fun _ => True) ?hr ?hp (fun _ hk => hk) trivial (Below.refl _ _) (Nat.le_refl _) (by simp) ?_; (case hd => rfl); (case hg => rfl); (case hr => first | (go_simp; done) | (go_simp; rfl)); (case hp => exact (Reps.one (show Kd.M (Kd.int .i64) _ _ _ x8_1 [.int .i64 x8_1] from rfl) (Reps.none _ _)))
                            intro v669 w53 ho54 hb hg_ hnew_
                            clear hg_ hnew_
                            (first | rw [← Ny668.out] at ho54 | (simp only [Int.reduceToNat] at ho54; rw [← Ny668.out] at ho54))
                            have n0_ := Aside0.mk (Kd.V_elder' (by (with_reducible repeat (first | apply Kd.V_alloc | apply Kd.V_drewN | apply Kd.V_drew)); exact HO_0.out) (Kd.R_base ho54) hb)
                            have n1_ := Aside0.mk (Kd.V_elder' (by (with_reducible repeat (first | apply Kd.V_alloc | apply Kd.V_drewN | apply Kd.V_drew)); exact HO_1.out) (Kd.R_base ho54) hb)
                            have n2_ := Aside0.mk (Kd.R_elder' (by (with_reducible repeat (first | apply Kd.R_alloc | apply Kd.R_drewN | apply Kd.R_drew)); exact HO_7.out) (Kd.R_base ho54) hb)
                            have n3_ := Aside0.mk (Kd.V_elder' (by (with_reducible repeat (first | apply Kd.V_alloc | apply Kd.V_drewN | apply Kd.V_drew)); exact HO664.out) (Kd.R_base ho54) hb)
                            have n4_ := Aside0.mk (Kd.V_elder' (by (with_reducible repeat (first | apply Kd.V_alloc | apply Kd.V_drewN | apply Kd.V_drew)); exact HO678.out) (Kd.R_base ho54) hb)
                            have n5_ := Aside0.mk (Kd.R_lower (Kd.R_new' (Kd.R_newM (M := fun k_ => (w.heap.size ≤ k_)) ho54 (below_size (by repeat (first | (with_reducible first | exact HB.out | apply below_alloc | apply pw_below_drewN | apply below_drew1) | exact HB.out))) (fun k_ h_ => h_)) (Kd.R_lt (by (with_reducible repeat (first | apply Kd.R_alloc | apply Kd.R_drewN | apply Kd.R_drew)); exact HO_7.out))) (below_size (by repeat (first | (with_reducible first | exact HB.out | apply below_alloc | apply pw_below_drewN | apply below_drew1) | exact HB.out))))
                            have n6_ := Aside0.mk (below_step (by repeat (first | (with_reducible first | exact HB.out | apply below_alloc | apply pw_below_drewN | apply below_drew1) | exact HB.out)) hb)
                            clear HO_0
                            clear HO_1
                            clear HO_7
                            clear HO664
                            clear HO678
                            clear HB
                            have HO_0 := n0_
                            have HO_1 := n1_
                            have HO_7 := n2_
                            have HO664 := n3_
                            have HO678 := n4_
                            have HO670 := n5_
                            have HB := n6_
                            clear n0_ n1_ n2_ n3_ n4_ n5_ n6_
                            clear hb ho54
                            refine hK.out _ _ trivial (fun hHeld => ?_)
                            clear hK K
                            refine norm_ (a' := ?_) ?_ ?_
                            rotate_left
                            · show Act.put _ (some 45) _ = _
                              simp only [Act.put, List.setIfInBounds_toArray, List.set_cons_zero, List.set_cons_succ, i64_w, i32_w]
                              rfl
                            refine one_ (i := 0) (N := some 39) #[true, true, true, true, false, true, true, false, true, true, true, false, false] rfl rfl (one_of HT_.out (by kernel_rfl)) (by decide) (fun K hK => ?_)
                            refine Kd.R_lit_step (Kd.int .i64) _ 3 ?hg (N := 39) ?hd (xs := ([] : List Int)) (inner := []) (ok := fun _ => True) (okp := fun _ => True) ?hr ?hp (fun _ hk => hk) trivial (Below.refl _ _) (Nat.le_refl _) (by simp) ?_; (case hd => rfl); (case hg => rfl); (case hr => first | (go_simp; done) | (go_simp; rfl)); (case hp => exact (Reps.none _ _))
                            intro v658 w55 ho56 hb hg_ hnew_
                            clear hg_ hnew_
                            (first | rw [← Ny657.out] at ho56 | (simp only [Int.reduceToNat] at ho56; rw [← Ny657.out] at ho56))
                            have n0_ := Aside0.mk (Kd.V_elder' (by (with_reducible repeat (first | apply Kd.V_alloc | apply Kd.V_drewN | apply Kd.V_drew)); exact HO_0.out) (Kd.R_base ho56) hb)
                            have n1_ := Aside0.mk (Kd.V_elder' (by (with_reducible repeat (first | apply Kd.V_alloc | apply Kd.V_drewN | apply Kd.V_drew)); exact HO_1.out) (Kd.R_base ho56) hb)
                            have n2_ := Aside0.mk (Kd.R_elder' (by (with_reducible repeat (first | apply Kd.R_alloc | apply Kd.R_drewN | apply Kd.R_drew)); exact HO_7.out) (Kd.R_base ho56) hb)
                            have n3_ := Aside0.mk (Kd.V_elder' (by (with_reducible repeat (first | apply Kd.V_alloc | apply Kd.V_drewN | apply Kd.V_drew)); exact HO664.out) (Kd.R_base ho56) hb)
                            have n4_ := Aside0.mk (Kd.V_elder' (by (with_reducible repeat (first | apply Kd.V_alloc | apply Kd.V_drewN | apply Kd.V_drew)); exact HO678.out) (Kd.R_base ho56) hb)
                            have n5_ := Aside0.mk (Kd.R_elder' (by (with_reducible repeat (first | apply Kd.R_alloc | apply Kd.R_drewN | apply Kd.R_drew)); exact HO670.out) (Kd.R_base ho56) hb)
                            have n6_ := Aside0.mk (Kd.R_lower (Kd.R_new' (Kd.R_new' (Kd.R_newM (M := fun k_ => (w.heap.size ≤ k_)) ho56 (below_size (by repeat (first | (with_reducible first | exact HB.out | apply below_alloc | apply pw_below_drewN | apply below_drew1) | exact HB.out))) (fun k_ h_ => h_)) (Kd.R_lt (by (with_reducible repeat (first | apply Kd.R_alloc | apply Kd.R_drewN | apply Kd.R_drew)); exact HO_7.out))) (Kd.R_lt (by (with_reducible repeat (first | apply Kd.R_alloc | apply Kd.R_drewN | apply Kd.R_drew)); exact HO670.out))) (below_size (by repeat (first | (with_reducible first | exact HB.out | apply below_alloc | apply pw_below_drewN | apply below_drew1) | exact HB.out))))
                            have n7_ := Aside0.mk (below_step (by repeat (first | (with_reducible first | exact HB.out | apply below_alloc | apply pw_below_drewN | apply below_drew1) | exact HB.out)) hb)
                            clear HO_0
                            clear HO_1
                            clear HO_7
                            clear HO664
                            clear HO678
                            clear HO670
                            clear HB
                            have HO_0 := n0_
                            have HO_1 := n1_
                            have HO_7 := n2_
                            have HO664 := n3_
                            have HO678 := n4_
                            have HO670 := n5_
                            have HO659 := n6_
                            have HB := n7_
                            clear n0_ n1_ n2_ n3_ n4_ n5_ n6_ n7_
                            clear hb ho56
                            refine hK.out _ _ trivial (fun hHeld => ?_)
                            clear hK K
                            refine norm_ (a' := ?_) ?_ ?_
                            rotate_left
                            · show Act.put _ (some 39) _ = _
                              simp only [Act.put, List.setIfInBounds_toArray, List.set_cons_zero, List.set_cons_succ, i64_w, i32_w]
                              rfl
                            refine one_ (i := 4) (N := some 43) #[true, true, true, true, true, true, true, false, true, true, true, false, false] rfl rfl (one_of HT_.out (by kernel_rfl)) (by decide) (fun K hK => ?_)
                            refine Kd.R_append_rows_step (Kd.int .i64) (w0 := w) w.heap.size (by rfl) (.tmp 39) (.tmp 42) 23 3 (.int .i64 0) 8 rfl Try.underlying23 info3 rfl (by decide) (by omega) v658 y657 y660 _ _ _ (fun k_ => (w.heap.size ≤ k_) ∧ some k_ ≠ (.slice Ao5 x7_1.length co5 : Value).ownBlock ∧ some k_ ≠ (v669 : Value).ownBlock) (fun _ => False) rfl rfl ?aO ?aR (fun _ _ h => h) (fun _ h => h.elim) ?aF ?aB ?aS ?aL ?_
                            (case aR => repeat (first | exact (Kd.V_reads' HO664.out).2.2 | (with_reducible refine Kd.C_alloc ?_ _) | (with_reducible refine Kd.C_drewN ?_ _) | (with_reducible refine Kd.C_drew ?_)))
                            (case aB => exact (by repeat (first | (with_reducible first | exact HB.out | apply below_alloc | apply pw_below_drewN | apply below_drew1) | exact HB.out)))
                            (case aF => exact (fun k_ hk => ⟨(Nat.le_trans (below_size (by repeat (first | (with_reducible first | exact HB.out | apply below_alloc | apply pw_below_drewN | apply below_drew1) | exact HB.out))) hk), Kd.fresh' (Kd.R_lt (by (with_reducible repeat (first | apply Kd.R_alloc | apply Kd.R_drewN | apply Kd.R_drew)); exact HO_7.out)) k_ hk, Kd.fresh' (Kd.R_lt (by (with_reducible repeat (first | apply Kd.R_alloc | apply Kd.R_drewN | apply Kd.R_drew)); exact HO670.out)) k_ hk⟩))
                            (case aO => exact (by (with_reducible repeat (first | apply Kd.R_alloc | apply Kd.R_drewN | apply Kd.R_drew)); exact Kd.R_mono HO659.out (fun _ hk => ⟨hk.1.1.1, ⟨hk.1.2, hk.2⟩⟩)))
                            (case aS => exact (below_size (by repeat (first | (with_reducible first | exact HB.out | apply below_alloc | apply pw_below_drewN | apply below_drew1) | exact HB.out))))
                            (case aL => have := LMc45.out; omega)
                            intro v666 w57 ho hb hg hat
                            rw [← Ny665.out] at ho
                            have n0_ := Aside0.mk (Kd.V_afterv (ok := (fun k_ => ((P0_ k_ ∨ P1_ k_) ∨ w.heap.size ≤ k_) ∧ some k_ ≠ (.slice Ao5 x7_1.length co5 : Value).ownBlock ∧ some k_ ≠ (v669 : Value).ownBlock)) (by (with_reducible repeat (first | apply Kd.V_alloc | apply Kd.V_drewN | apply Kd.V_drew)); exact Kd.V_mono HO_0.out (fun _ hk => ⟨⟨hk.1.1.1, ⟨hk.1.1.2, hk.1.2⟩⟩, hk.2⟩)) hg hat)
                            have n1_ := Aside0.mk (Kd.V_afterv (ok := (fun k_ => ((P0_ k_ ∨ P1_ k_) ∨ w.heap.size ≤ k_) ∧ some k_ ≠ (.slice Ao5 x7_1.length co5 : Value).ownBlock ∧ some k_ ≠ (v669 : Value).ownBlock)) (by (with_reducible repeat (first | apply Kd.V_alloc | apply Kd.V_drewN | apply Kd.V_drew)); exact Kd.V_mono HO_1.out (fun _ hk => ⟨⟨hk.1.1.1, ⟨hk.1.1.2, hk.1.2⟩⟩, hk.2⟩)) hg hat)
                            have n2_ := Aside0.mk (Kd.R_after (ok := (fun k_ => (w.heap.size ≤ k_) ∧ some k_ ≠ (v669 : Value).ownBlock)) (by (with_reducible repeat (first | apply Kd.R_alloc | apply Kd.R_drewN | apply Kd.R_drew)); exact HO_7.out) hg hat)
                            have n3_ := Aside0.mk (Kd.V_afterv (ok := (fun k_ => ((P0_ k_ ∨ P1_ k_) ∨ w.heap.size ≤ k_) ∧ some k_ ≠ (v669 : Value).ownBlock)) (by (with_reducible repeat (first | apply Kd.V_alloc | apply Kd.V_drewN | apply Kd.V_drew)); exact HO664.out) hg hat)
                            have n4_ := Aside0.mk (Kd.V_afterv (ok := (fun k_ => ((P0_ k_ ∨ P1_ k_) ∨ w.heap.size ≤ k_) ∧ some k_ ≠ (v669 : Value).ownBlock)) (by (with_reducible repeat (first | apply Kd.V_alloc | apply Kd.V_drewN | apply Kd.V_drew)); exact HO678.out) hg hat)
                            have n5_ := Aside0.mk (Kd.R_after (ok := (fun k_ => (w.heap.size ≤ k_) ∧ some k_ ≠ (.slice Ao5 x7_1.length co5 : Value).ownBlock)) (by (with_reducible repeat (first | apply Kd.R_alloc | apply Kd.R_drewN | apply Kd.R_drew)); exact Kd.R_mono HO670.out (fun _ hk => ⟨⟨hk.1.1.1, hk.1.2⟩, hk.2⟩)) hg hat)
                            have n6_ := Aside0.mk (hb)
                            have n7_ := Aside0.mk (ho)
                            clear HO_0
                            clear HO_1
                            clear HO_7
                            clear HO664
                            clear HO678
                            clear HO670
                            clear HB
                            clear HO659
                            have HO_0 := n0_
                            have HO_1 := n1_
                            have HO_7 := n2_
                            have HO664 := n3_
                            have HO678 := n4_
                            have HO670 := n5_
                            have HB := n6_
                            have HO667 := n7_
                            clear n0_ n1_ n2_ n3_ n4_ n5_ n6_ n7_
                            clear ho hb hg hat
                            refine hK.out _ _ trivial (fun hHeld => ?_)
                            clear hK K
                            refine norm_ (a' := ?_) ?_ ?_
                            rotate_left
                            · show Act.put _ (some 43) _ = _
                              simp only [Act.put, List.setIfInBounds_toArray, List.set_cons_zero, List.set_cons_succ, i64_w, i32_w]
                              rfl
                            exact norm_ (by simp only [putAll, Act.put, List.setIfInBounds_toArray, List.set_cons_zero, List.set_cons_succ]) (hCont (v658, v666, v669) _ ⟨(by (with_reducible repeat (first | apply Kd.V_alloc | apply Kd.V_drewN | apply Kd.V_drew)); exact Kd.V_mono HO664.out (fun _ hk => ⟨hk.1.1, ⟨hk.2, hk.1.2⟩⟩)), (by (with_reducible repeat (first | apply Kd.R_alloc | apply Kd.R_drewN | apply Kd.R_drew)); exact Kd.R_mono HO667.out (fun _ hk => ⟨hk.1, ⟨hk.2.2, hk.2.1⟩⟩)), (by (with_reducible repeat (first | apply Kd.R_alloc | apply Kd.R_drewN | apply Kd.R_drew)); exact Kd.R_mono HO670.out (fun _ hk => ⟨hk.1.1, ⟨hk.2, hk.1.2⟩⟩)), (by (with_reducible repeat (first | apply Kd.V_alloc | apply Kd.V_drewN | apply Kd.V_drew)); exact Kd.V_mono HO678.out (fun _ hk => ⟨hk.1.1, ⟨hk.2, hk.1.2⟩⟩)), (by (with_reducible repeat (first | apply Kd.V_alloc | apply Kd.V_drewN | apply Kd.V_drew)); exact Kd.V_mono HO_0.out (fun _ hk => ⟨hk.1.1, ⟨hk.2, ⟨hk.1.2.2, hk.1.2.1⟩⟩⟩)), (by (with_reducible repeat (first | apply Kd.V_alloc | apply Kd.V_drewN | apply Kd.V_drew)); exact Kd.V_mono HO_1.out (fun _ hk => ⟨hk.1.1, ⟨hk.2, ⟨hk.1.2.2, hk.1.2.1⟩⟩⟩)), (by (with_reducible repeat (first | apply Kd.R_alloc | apply Kd.R_drewN | apply Kd.R_drew)); exact Kd.R_mono HO_7.out (fun _ hk => ⟨hk.1.1, ⟨hk.2, hk.1.2⟩⟩)), (by repeat (first | (with_reducible first | exact HB.out | apply below_alloc | apply pw_below_drewN | apply below_drew1) | exact HB.out))⟩)
                        rintro ⟨v658, v666, v669⟩ w58 ⟨h0_, h1_, h2_, h3_, h4_, h5_, h6_, h7_⟩
                        have n0_ : Aside0 (Kd.V (Kd.int .i64) 3 w58 w.heap.size (fun k_ => ((P0_ k_ ∨ P1_ k_) ∨ w.heap.size ≤ k_) ∧ some k_ ≠ (v666 : Value).ownBlock ∧ some k_ ≠ (v669 : Value).ownBlock) (.slice Ao5 y660.length co5) y660) := ⟨h0_⟩
                        have n1_ : Aside0 (Kd.R (Kd.int .i64) 3 w58 w.heap.size (fun k_ => (w.heap.size ≤ k_) ∧ some k_ ≠ (v669 : Value).ownBlock ∧ some k_ ≠ (.slice Ao5 x7_1.length co5 : Value).ownBlock) v666 y665) := ⟨h1_⟩
                        have n2_ : Aside0 (Kd.R (Kd.int .i64) 3 w58 w.heap.size (fun k_ => (w.heap.size ≤ k_) ∧ some k_ ≠ (v666 : Value).ownBlock ∧ some k_ ≠ (.slice Ao5 x7_1.length co5 : Value).ownBlock) v669 y668) := ⟨h2_⟩
                        have n3_ : Aside0 (Kd.V (Kd.int .i64) 3 w58 w.heap.size (fun k_ => ((P0_ k_ ∨ P1_ k_) ∨ w.heap.size ≤ k_) ∧ some k_ ≠ (v666 : Value).ownBlock ∧ some k_ ≠ (v669 : Value).ownBlock) (.slice A52 y674.length c52) y674) := ⟨h3_⟩
                        have n4_ : Aside0 (Kd.V (Kd.slice 33 k33) 22 w58 w.heap.size (fun k_ => ((P0_ k_ ∨ P1_ k_) ∨ w.heap.size ≤ k_) ∧ some k_ ≠ (v666 : Value).ownBlock ∧ some k_ ≠ (v669 : Value).ownBlock ∧ some k_ ≠ (.slice Ao5 x7_1.length co5 : Value).ownBlock) (.slice A0 l0.length c0) l0) := ⟨h4_⟩
                        have n5_ : Aside0 (Kd.V (Kd.slice 33 k33) 22 w58 w.heap.size (fun k_ => ((P0_ k_ ∨ P1_ k_) ∨ w.heap.size ≤ k_) ∧ some k_ ≠ (v666 : Value).ownBlock ∧ some k_ ≠ (v669 : Value).ownBlock ∧ some k_ ≠ (.slice Ao5 x7_1.length co5 : Value).ownBlock) (.slice A1 l1.length c1) l1) := ⟨h5_⟩
                        have n6_ : Aside0 (Kd.R (Kd.int .i64) 3 w58 w.heap.size (fun k_ => (w.heap.size ≤ k_) ∧ some k_ ≠ (v666 : Value).ownBlock ∧ some k_ ≠ (v669 : Value).ownBlock) (.slice Ao5 x7_1.length co5) x7_1) := ⟨h6_⟩
                        have n7_ : Aside0 (Below w.heap.size w w58) := ⟨h7_⟩
                        clear HO_0
                        clear HO_1
                        clear HO_7
                        clear HB
                        clear h0_ h1_ h2_ h3_ h4_ h5_ h6_ h7_
                        have HO664 := n0_
                        have HO667 := n1_
                        have HO670 := n2_
                        have HO678 := n3_
                        have HO_0 := n4_
                        have HO_1 := n5_
                        have HO_7 := n6_
                        have HB := n7_
                        clear n0_ n1_ n2_ n3_ n4_ n5_ n6_ n7_
                        have hHeld := trivial
                        obtain ⟨Ao60, co60, eo60⟩ := Kd.R_slice HO670.out
                        (first | subst eo60 | (injection eo60 with f1_ f2_ f3_; have f4_ := f1_.symm; have f5_ := f3_.symm; clear f1_ f2_ f3_; subst f4_; subst f5_))
                        refine norm_ (a' := ?_) ?_ ?_
                        rotate_left
                        · simp only [putAll, Act.put, List.setIfInBounds_toArray, List.set_cons_zero, List.set_cons_succ]
                          rfl
                        refine one_ (i := 7) (N := some 46) #[true, true, true, true, true, true, true, true, true, true, true, false, false] rfl rfl (one_of HT_.out (by kernel_rfl)) (by decide) (fun K hK => ?_)
                        refine Kd.R_append_rows_step (Kd.int .i64) (w0 := w) w.heap.size (by rfl) (.tmp 43) (.tmp 45) 23 3 (.int .i64 0) 8 rfl Try.underlying23 info3 rfl (by decide) (by omega) v666 y665 y668 _ _ _ (fun k_ => (w.heap.size ≤ k_) ∧ some k_ ≠ (.slice Ao5 x7_1.length co5 : Value).ownBlock ∧ some k_ ≠ (.slice Ao60 y668.length co60 : Value).ownBlock) (fun _ => False) rfl rfl ?aO ?aR (fun _ _ h => h) (fun _ h => h.elim) ?aF ?aB ?aS ?aL ?_
                        (case aR => repeat (first | exact (Kd.R_reads' HO670.out).2.2 | (with_reducible refine Kd.C_alloc ?_ _) | (with_reducible refine Kd.C_drewN ?_ _) | (with_reducible refine Kd.C_drew ?_)))
                        (case aB => exact (by repeat (first | (with_reducible first | exact HB.out | apply below_alloc | apply pw_below_drewN | apply below_drew1) | exact HB.out)))
                        (case aF => exact (fun k_ hk => ⟨(Nat.le_trans (below_size (by repeat (first | (with_reducible first | exact HB.out | apply below_alloc | apply pw_below_drewN | apply below_drew1) | exact HB.out))) hk), Kd.fresh' (Kd.R_lt (by (with_reducible repeat (first | apply Kd.R_alloc | apply Kd.R_drewN | apply Kd.R_drew)); exact HO_7.out)) k_ hk, Kd.fresh' (Kd.R_lt (by (with_reducible repeat (first | apply Kd.R_alloc | apply Kd.R_drewN | apply Kd.R_drew)); exact HO670.out)) k_ hk⟩))
                        (case aO => exact (by (with_reducible repeat (first | apply Kd.R_alloc | apply Kd.R_drewN | apply Kd.R_drew)); exact Kd.R_mono HO667.out (fun _ hk => ⟨hk.1, ⟨hk.2.2, hk.2.1⟩⟩)))
                        (case aS => exact (below_size (by repeat (first | (with_reducible first | exact HB.out | apply below_alloc | apply pw_below_drewN | apply below_drew1) | exact HB.out))))
                        (case aL => have := LMc46.out; omega)
                        intro v672 w59 ho hb hg hat
                        rw [← Ny671.out] at ho
                        have n0_ := Aside0.mk (Kd.V_afterv (ok := (fun k_ => ((P0_ k_ ∨ P1_ k_) ∨ w.heap.size ≤ k_) ∧ some k_ ≠ (.slice Ao5 x7_1.length co5 : Value).ownBlock ∧ some k_ ≠ (.slice Ao60 y668.length co60 : Value).ownBlock)) (by (with_reducible repeat (first | apply Kd.V_alloc | apply Kd.V_drewN | apply Kd.V_drew)); exact Kd.V_mono HO_0.out (fun _ hk => ⟨⟨hk.1, ⟨hk.2.2.2, hk.2.2.1⟩⟩, hk.2.1⟩)) hg hat)
                        have n1_ := Aside0.mk (Kd.V_afterv (ok := (fun k_ => ((P0_ k_ ∨ P1_ k_) ∨ w.heap.size ≤ k_) ∧ some k_ ≠ (.slice Ao5 x7_1.length co5 : Value).ownBlock ∧ some k_ ≠ (.slice Ao60 y668.length co60 : Value).ownBlock)) (by (with_reducible repeat (first | apply Kd.V_alloc | apply Kd.V_drewN | apply Kd.V_drew)); exact Kd.V_mono HO_1.out (fun _ hk => ⟨⟨hk.1, ⟨hk.2.2.2, hk.2.2.1⟩⟩, hk.2.1⟩)) hg hat)
                        have n2_ := Aside0.mk (Kd.R_after (ok := (fun k_ => (w.heap.size ≤ k_) ∧ some k_ ≠ (.slice Ao60 y668.length co60 : Value).ownBlock)) (by (with_reducible repeat (first | apply Kd.R_alloc | apply Kd.R_drewN | apply Kd.R_drew)); exact Kd.R_mono HO_7.out (fun _ hk => ⟨⟨hk.1, hk.2.2⟩, hk.2.1⟩)) hg hat)
                        have n3_ := Aside0.mk (Kd.V_afterv (ok := (fun k_ => ((P0_ k_ ∨ P1_ k_) ∨ w.heap.size ≤ k_) ∧ some k_ ≠ (.slice Ao60 y668.length co60 : Value).ownBlock)) (by (with_reducible repeat (first | apply Kd.V_alloc | apply Kd.V_drewN | apply Kd.V_drew)); exact Kd.V_mono HO664.out (fun _ hk => ⟨⟨hk.1, hk.2.2⟩, hk.2.1⟩)) hg hat)
                        have n4_ := Aside0.mk (Kd.V_afterv (ok := (fun k_ => ((P0_ k_ ∨ P1_ k_) ∨ w.heap.size ≤ k_) ∧ some k_ ≠ (.slice Ao60 y668.length co60 : Value).ownBlock)) (by (with_reducible repeat (first | apply Kd.V_alloc | apply Kd.V_drewN | apply Kd.V_drew)); exact Kd.V_mono HO678.out (fun _ hk => ⟨⟨hk.1, hk.2.2⟩, hk.2.1⟩)) hg hat)
                        have n5_ := Aside0.mk (Kd.R_after (ok := (fun k_ => (w.heap.size ≤ k_) ∧ some k_ ≠ (.slice Ao5 x7_1.length co5 : Value).ownBlock)) (by (with_reducible repeat (first | apply Kd.R_alloc | apply Kd.R_drewN | apply Kd.R_drew)); exact Kd.R_mono HO670.out (fun _ hk => ⟨⟨hk.1, hk.2.2⟩, hk.2.1⟩)) hg hat)
                        have n6_ := Aside0.mk (hb)
                        have n7_ := Aside0.mk (ho)
                        clear HO_0
                        clear HO_1
                        clear HO_7
                        clear HO664
                        clear HO678
                        clear HO670
                        clear HB
                        clear HO667
                        have HO_0 := n0_
                        have HO_1 := n1_
                        have HO_7 := n2_
                        have HO664 := n3_
                        have HO678 := n4_
                        have HO670 := n5_
                        have HB := n6_
                        have HO673 := n7_
                        clear n0_ n1_ n2_ n3_ n4_ n5_ n6_ n7_
                        clear ho hb hg hat
                        refine hK.out _ _ trivial (fun hHeld => ?_)
                        clear hK K
                        refine norm_ (a' := ?_) ?_ ?_
                        rotate_left
                        · show Act.put _ (some 46) _ = _
                          simp only [Act.put, List.setIfInBounds_toArray, List.set_cons_zero, List.set_cons_succ, i64_w, i32_w]
                          rfl
                        refine one_ (i := 11) (N := some 50) #[true, true, true, true, true, true, true, true, true, true, true, true, false] rfl rfl (one_of HT_.out (by kernel_rfl)) (by decide) (fun K hK => ?_)
                        refine Kd.R_append_rows_step (Kd.int .i64) (w0 := w) w.heap.size (by rfl) (.tmp 46) (.tmp 49) 23 3 (.int .i64 0) 8 rfl Try.underlying23 info3 rfl (by decide) (by omega) v672 y671 y674 _ _ _ (fun k_ => (w.heap.size ≤ k_) ∧ some k_ ≠ (.slice Ao5 x7_1.length co5 : Value).ownBlock ∧ some k_ ≠ (.slice Ao60 y668.length co60 : Value).ownBlock) (fun _ => False) rfl rfl ?aO ?aR (fun _ _ h => h) (fun _ h => h.elim) ?aF ?aB ?aS ?aL ?_
                        (case aR => repeat (first | exact (Kd.V_reads' HO678.out).2.2 | (with_reducible refine Kd.C_alloc ?_ _) | (with_reducible refine Kd.C_drewN ?_ _) | (with_reducible refine Kd.C_drew ?_)))
                        (case aB => exact (by repeat (first | (with_reducible first | exact HB.out | apply below_alloc | apply pw_below_drewN | apply below_drew1) | exact HB.out)))
                        (case aF => exact (fun k_ hk => ⟨(Nat.le_trans (below_size (by repeat (first | (with_reducible first | exact HB.out | apply below_alloc | apply pw_below_drewN | apply below_drew1) | exact HB.out))) hk), Kd.fresh' (Kd.R_lt (by (with_reducible repeat (first | apply Kd.R_alloc | apply Kd.R_drewN | apply Kd.R_drew)); exact HO_7.out)) k_ hk, Kd.fresh' (Kd.R_lt (by (with_reducible repeat (first | apply Kd.R_alloc | apply Kd.R_drewN | apply Kd.R_drew)); exact HO670.out)) k_ hk⟩))
                        (case aO => exact (by (with_reducible repeat (first | apply Kd.R_alloc | apply Kd.R_drewN | apply Kd.R_drew)); exact HO673.out))
                        (case aS => exact (below_size (by repeat (first | (with_reducible first | exact HB.out | apply below_alloc | apply pw_below_drewN | apply below_drew1) | exact HB.out))))
                        (case aL => have := LMc49.out; omega)
                        intro v680 w61 ho hb hg hat
                        rw [← Ny679.out] at ho
                        have n0_ := Aside0.mk (Kd.V_afterv (ok := (fun k_ => ((P0_ k_ ∨ P1_ k_) ∨ w.heap.size ≤ k_) ∧ some k_ ≠ (.slice Ao5 x7_1.length co5 : Value).ownBlock ∧ some k_ ≠ (.slice Ao60 y668.length co60 : Value).ownBlock)) (by (with_reducible repeat (first | apply Kd.V_alloc | apply Kd.V_drewN | apply Kd.V_drew)); exact HO_0.out) hg hat)
                        have n1_ := Aside0.mk (Kd.V_afterv (ok := (fun k_ => ((P0_ k_ ∨ P1_ k_) ∨ w.heap.size ≤ k_) ∧ some k_ ≠ (.slice Ao5 x7_1.length co5 : Value).ownBlock ∧ some k_ ≠ (.slice Ao60 y668.length co60 : Value).ownBlock)) (by (with_reducible repeat (first | apply Kd.V_alloc | apply Kd.V_drewN | apply Kd.V_drew)); exact HO_1.out) hg hat)
                        have n2_ := Aside0.mk (Kd.R_after (ok := (fun k_ => (w.heap.size ≤ k_) ∧ some k_ ≠ (.slice Ao60 y668.length co60 : Value).ownBlock)) (by (with_reducible repeat (first | apply Kd.R_alloc | apply Kd.R_drewN | apply Kd.R_drew)); exact HO_7.out) hg hat)
                        have n3_ := Aside0.mk (Kd.V_afterv (ok := (fun k_ => ((P0_ k_ ∨ P1_ k_) ∨ w.heap.size ≤ k_) ∧ some k_ ≠ (.slice Ao60 y668.length co60 : Value).ownBlock)) (by (with_reducible repeat (first | apply Kd.V_alloc | apply Kd.V_drewN | apply Kd.V_drew)); exact HO664.out) hg hat)
                        have n4_ := Aside0.mk (Kd.V_afterv (ok := (fun k_ => ((P0_ k_ ∨ P1_ k_) ∨ w.heap.size ≤ k_) ∧ some k_ ≠ (.slice Ao60 y668.length co60 : Value).ownBlock)) (by (with_reducible repeat (first | apply Kd.V_alloc | apply Kd.V_drewN | apply Kd.V_drew)); exact HO678.out) hg hat)
                        have n5_ := Aside0.mk (Kd.R_after (ok := (fun k_ => (w.heap.size ≤ k_) ∧ some k_ ≠ (.slice Ao5 x7_1.length co5 : Value).ownBlock)) (by (with_reducible repeat (first | apply Kd.R_alloc | apply Kd.R_drewN | apply Kd.R_drew)); exact HO670.out) hg hat)
                        have n6_ := Aside0.mk (hb)
                        have n7_ := Aside0.mk (ho)
                        clear HO_0
                        clear HO_1
                        clear HO_7
                        clear HO664
                        clear HO678
                        clear HO670
                        clear HB
                        clear HO673
                        have HO_0 := n0_
                        have HO_1 := n1_
                        have HO_7 := n2_
                        have HO664 := n3_
                        have HO678 := n4_
                        have HO670 := n5_
                        have HB := n6_
                        have HO681 := n7_
                        clear n0_ n1_ n2_ n3_ n4_ n5_ n6_ n7_
                        clear ho hb hg hat
                        refine hK.out _ _ trivial (fun hHeld => ?_)
                        clear hK K
                        refine norm_ (a' := ?_) ?_ ?_
                        rotate_left
                        · show Act.put _ (some 50) _ = _
                          simp only [Act.put, List.setIfInBounds_toArray, List.set_cons_zero, List.set_cons_succ, i64_w, i32_w]
                          rfl
                        refine pure_ (i := 12) (N := some 7) (v := ?_) (a' := ?_) #[true, true, true, true, true, true, true, true, true, true, true, true, true] rfl rfl (any_of HT_.out (by kernel_rfl)) (fun _ _ _ h => h) (Or.inl ⟨by rfl, ?_⟩) ?_ ?_
                        rotate_left
                        · intro w'
                          go_simp
                          with_reducible rfl
                        rotate_left
                        · simp only [Act.put, List.setIfInBounds_toArray, List.set_cons_zero, List.set_cons_succ, i64_w, i32_w]
                          rfl
                        refine done_ (done_of HT_.out (by kernel_rfl)) ?_
                        try go_wp2
                        go_roundg k2
                        case measure => have := HK1.out; have := HK2.out; omega
                        case rel => exact ⟨(y679), (wrap64 (x8_1 + 1)), (by first | rfl | (simp; done) | (simp [*]; done)), H', ⟨by have := HK1.out; have := HK2.out; omega⟩, ⟨by (with_reducible repeat (first | apply Kd.V_alloc | apply Kd.V_drewN | apply Kd.V_drew)); exact Kd.V_mono HO_0.out (fun _ hk => ⟨hk.1.1, hk.2⟩)⟩, ⟨by (with_reducible repeat (first | apply Kd.V_alloc | apply Kd.V_drewN | apply Kd.V_drew)); exact Kd.V_mono HO_1.out (fun _ hk => ⟨hk.1.1, hk.2⟩)⟩, ⟨by (with_reducible repeat (first | apply Kd.R_alloc | apply Kd.R_drewN | apply Kd.R_drew)); exact Kd.R_mono HO681.out (fun _ hk => hk.1)⟩, ⟨by repeat (first | (with_reducible first | exact HB.out | apply below_alloc | apply pw_below_drewN | apply below_drew1) | exact HB.out)⟩⟩
                      · rw [if_neg c49] at H
                        exact absurd H (by simp)
                    · rw [if_neg c46] at H
                      exact absurd H (by simp)
                  · rw [if_neg c45] at H
                    exact absurd H (by simp)
                · rw [if_neg c44] at H
                  exact absurd H (by simp)
              · rw [if_neg c43] at H
                exact absurd H (by simp)
      · rw [if_neg c4] at H
        have c4b0 : decide (x8_1 < (l0.length : Int)) = false := decide_eq_false c4
        clear c4
        have H' := Aside0.mk H
        clear H
        go_wp2
        go_loopg [10, 11] k1 (fun kq v10 v11 w' => ∃ (x10_2 : List (List (S33))) (x11_2 : Int), v11 = .int .i64 x11_2 ∧ Aside0 (cordonref11_Sort.l2 kq l0 x7_1 x10_2 x11_2 = some r) ∧ Aside0 (kq ≤ k1) ∧ Aside0 (Kd.V (Kd.slice 33 k33) 22 w' w.heap.size (fun k_ => ((P0_ k_ ∨ P1_ k_) ∨ w.heap.size ≤ k_) ∧ some k_ ≠ (u7 : Value).ownBlock ∧ some k_ ≠ (v10 : Value).ownBlock) (.slice A0 l0.length c0) l0) ∧ Aside0 (Kd.R (Kd.int .i64) 3 w' w.heap.size (fun k_ => (w.heap.size ≤ k_)) u7 x7_1) ∧ Aside0 (Kd.N (Kd.slice 33 k33) 22 w' w.heap.size (fun k_ => ((P0_ k_ ∨ P1_ k_) ∨ w.heap.size ≤ k_) ∧ some k_ ≠ (u7 : Value).ownBlock) v10 x10_2) ∧ Aside0 (Below w.heap.size w w'))
        case atStart => exact ⟨(([] : List (List (S33)))), (0), (by first | rfl | (simp; done) | (simp [*]; done)), H', ⟨Nat.le_refl _⟩, ⟨by (with_reducible repeat (first | apply Kd.V_alloc | apply Kd.V_drewN | apply Kd.V_drew)); exact Kd.V_mono HO_0.out (fun _ hk => ⟨hk.1, ⟨hk.2, (by simp [Value.ownBlock])⟩⟩)⟩, ⟨by (with_reducible repeat (first | apply Kd.R_alloc | apply Kd.R_drewN | apply Kd.R_drew)); exact HO_7.out⟩, ⟨by first | exact Kd.S_nil _ _ _ _ _ | exact Kd.N_nil _ _ _ _ _ | exact Kd.V_nil _ _ _ _ _ | exact Kd.Q_nil _ _ _ _ _ | exact Kd.R_nil _ _ _ _ _⟩, ⟨by repeat (first | (with_reducible first | exact HB.out | apply below_alloc | apply pw_below_drewN | apply below_drew1) | exact HB.out)⟩⟩
        case round =>
          clear H'
          try clear c1
          try clear p2
          try clear c4
          try clear c4b0
          try clear c5
          try clear q5
          try clear p6
          try clear c43
          try clear c44
          try clear c45
          try clear c46
          try clear c47
          try clear c47b0
          try clear c48
          try clear c48b0
          try clear c49
          try clear q51
          try clear c52
          try clear q52
          try clear q052
          try clear q51
          try clear q52
          obtain ⟨x10_2, x11_2, rfl, HA, HK2, HO_0, HO_7, HO_10, HB⟩ := hrel
          cases gk with
          | zero => exact absurd HA.out (by simp [cordonref11_Sort.l2])
          | succ k2 =>
            have H := HA.out
            clear HA
            simp only [cordonref11_Sort.l2] at H
            by_cases c62 : x11_2 < (x7_1.length : Int)
            · rw [if_pos c62] at H
              have c62b0 : decide (x11_2 < (x7_1.length : Int)) = true := decide_eq_true c62
              clear c62
              by_cases c63 : 0 ≤ x11_2
              · rw [if_pos c63] at H
                have c63b0 : decide (0 ≤ x11_2) = true := decide_eq_true c63
                clear c63
                by_cases c64 : 0 ≤ (rd x7_1 x11_2)
                · rw [if_pos c64] at H
                  have c64b0 : decide (0 ≤ (rd x7_1 x11_2)) = true := decide_eq_true c64
                  clear c64
                  by_cases c65 : (rd x7_1 x11_2) < (l0.length : Int)
                  · rw [if_pos c65] at H
                    have c65b0 : decide ((rd x7_1 x11_2) < (l0.length : Int)) = true := decide_eq_true c65
                    clear c65
                    obtain ⟨y684, hy684⟩ : ∃ y_ : List (List (S33)), y_ = (([rd_L4 l0 (rd x7_1 x11_2)] : List (List (S33)))) := ⟨_, rfl⟩
                    replace H : (if x10_2.length + y684.length < 5864062014805 then (cordonref11_Sort.l2 k2 l0 x7_1 (x10_2 ++ y684) (wrap64 (x11_2 + 1))) else (none)) = some r := by first | (rw [hy684]; with_reducible exact H) | (have H2_ := (Option.bind_some _ _).symm.trans H; rw [hy684]; with_reducible exact H2_) | (have H2_ := (Option.bind_some _ _).symm.trans H; with_reducible exact H2_) | with_reducible exact H | (rw [hy684]; exact H) | exact H
                    have Ny684 := Aside0.mk hy684
                    clear hy684
                    by_cases c66 : x10_2.length + y684.length < 5864062014805
                    · rw [if_pos c66] at H
                      have LMc66 := Aside0.mk c66
                      clear c66
                      obtain ⟨y687, hy687⟩ : ∃ y_ : List (List (S33)), y_ = (x10_2 ++ y684) := ⟨_, rfl⟩
                      replace H : (cordonref11_Sort.l2 k2 l0 x7_1 y687 (wrap64 (x11_2 + 1))) = some r := by first | (rw [hy687]; with_reducible exact H) | (have H2_ := (Option.bind_some _ _).symm.trans H; rw [hy687]; with_reducible exact H2_) | (have H2_ := (Option.bind_some _ _).symm.trans H; with_reducible exact H2_) | with_reducible exact H | (rw [hy687]; exact H) | exact H
                      have Ny687 := Aside0.mk hy687
                      clear hy687
                      have H' := Aside0.mk H
                      clear H
                      obtain ⟨Ao67, co67, eo67⟩ := Kd.R_slice HO_7.out
                      subst eo67
                      have p682 : 0 ≤ (x11_2 : Int) := of_decide_eq_true (by first | (with_reducible assumption) | assumption)
                      have q682 : x11_2 < (x7_1.length : Int) := of_decide_eq_true (by first | (with_reducible assumption) | assumption)
                      obtain ⟨ad682, e682, hx682_0⟩ := Kd.at_int (Kd.R_reads' HO_7.out).2.2 x11_2 p682 q682
                      cases e682
                      replace p682 := eq_true p682
                      replace q682 := eq_true q682
                      have p683 : 0 ≤ ((rd x7_1 x11_2) : Int) := of_decide_eq_true (by first | (with_reducible assumption) | assumption)
                      have q683 : (rd x7_1 x11_2) < (l0.length : Int) := of_decide_eq_true (by first | (with_reducible assumption) | assumption)
                      obtain ⟨ad683, A683_0, c683_0, e683, hx683_0, hl683_0, hi683_0⟩ := at_L4 (Kd.V_reads' HO_0.out).2.2 (rd x7_1 x11_2) p683 q683
                      cases e683
                      obtain ⟨ce683, hce683, hMe683, hcc683⟩ := Kd.V_get HO_0.out [] (rd x7_1 x11_2) p683 (by first | exact q683 | exact of_decide_eq_true (by first | (with_reducible assumption) | assumption) | (have e_ := (Kd.V_reads' HO_0.out).1; omega))
                      obtain ⟨ua683_0, uc683_0, rfl, ul683_0, ge683_0⟩ := Kd.FK_slice_open hMe683
                      have hv683_0 := hcc683 0 _ rfl
                      rw [Nat.add_zero, show ((Kd.slice 33 k33)).sz = 1 from rfl, Nat.mul_one] at hv683_0
                      replace hv683_0 := Option.some.inj (hv683_0.symm.trans hx683_0)
                      injection hv683_0 with hva_ hvn_ hvc_
                      rw [hva_] at ge683_0
                      rw [hvc_] at ul683_0
                      have HL683_0 := Aside0.mk (show Kd.V k33 33 _ w.heap.size _ _ (rd_L4 l0 (rd x7_1 x11_2)) from Kd.V_mk ul683_0 ge683_0)
                      clear hva_ hvn_ hvc_ ge683_0 ul683_0
                      clear hcc683 hce683
                      have HR683_0 := Aside0.mk hi683_0
                      have HC683_0 := Aside0.mk hl683_0
                      clear hi683_0 hl683_0
                      replace p683 := eq_true p683
                      replace q683 := eq_true q683
                      go_wp2_with (first | ((with_reducible refine gate_dst (N := 65) rfl ?_); refine Kd.N_lit (Kd.slice 33 k33) _ 22 ?hg (N' := 65) ?hd (xs := ([rd_L4 l0 (rd x7_1 x11_2)] : List (List (S33)))) (inner := [.slice A683_0 (rd_L4 l0 (rd x7_1 x11_2)).length c683_0]) (ok := (fun k_ => ((P0_ k_ ∨ P1_ k_) ∨ w.heap.size ≤ k_) ∧ some k_ ≠ (.slice (some ad682) x7_1.length co67 : Value).ownBlock ∧ some k_ ≠ (u10 : Value).ownBlock)) (okp := (fun k_ => ((P0_ k_ ∨ P1_ k_) ∨ w.heap.size ≤ k_) ∧ some k_ ≠ (.slice (some ad682) x7_1.length co67 : Value).ownBlock ∧ some k_ ≠ (u10 : Value).ownBlock)) ?hr ?hp (fun _ hk => hk) ((show ∀ k_, wr.heap.size ≤ k_ → (fun k_ => ((P0_ k_ ∨ P1_ k_) ∨ w.heap.size ≤ k_) ∧ some k_ ≠ (.slice (some ad682) x7_1.length co67 : Value).ownBlock ∧ some k_ ≠ (u10 : Value).ownBlock) k_ from fun k_ hk => ⟨(.inr (Nat.le_trans (below_size (by repeat (first | (with_reducible first | exact HB.out | apply below_alloc | apply pw_below_drewN | apply below_drew1) | exact HB.out))) hk)), Kd.fresh' (Kd.R_lt (by (with_reducible repeat (first | apply Kd.R_alloc | apply Kd.R_drewN | apply Kd.R_drew)); exact HO_7.out)) k_ hk, Kd.fresh' (Kd.N_lt (by (with_reducible repeat (first | apply Kd.N_alloc | apply Kd.N_drewN | apply Kd.N_drew)); exact HO_10.out)) k_ hk⟩) _ (Nat.le_refl _)) (Below.refl _ _) (Nat.le_refl _) (by simp) ?_; (case hd => rfl); (case hg => rfl); (case hr => first | (go_simp; done) | (go_simp; rfl)); (case hp => exact (Reps.one (show Kd.FK (Kd.slice 33 k33) _ _ (rd_L4 l0 (rd x7_1 x11_2)) [.slice A683_0 (rd_L4 l0 (rd x7_1 x11_2)).length c683_0] from (Kd.FK_slice_mk (Kd.V_reads' (Kd.V_mono (ok' := (fun k_ => ((P0_ k_ ∨ P1_ k_) ∨ w.heap.size ≤ k_) ∧ some k_ ≠ (.slice (some ad682) x7_1.length co67 : Value).ownBlock ∧ some k_ ≠ (u10 : Value).ownBlock)) (HL683_0.out) (fun k_ hk => ⟨hk.1, ⟨hk.2.1, hk.2.2⟩⟩))).2.1 (Kd.V_F (Kd.V_mono (ok' := (fun k_ => ((P0_ k_ ∨ P1_ k_) ∨ w.heap.size ≤ k_) ∧ some k_ ≠ (.slice (some ad682) x7_1.length co67 : Value).ownBlock ∧ some k_ ≠ (u10 : Value).ownBlock)) (HL683_0.out) (fun k_ hk => ⟨hk.1, ⟨hk.2.1, hk.2.2⟩⟩))))) (Reps.none _ _))); intro v685 w68 ho69 hb hg_ hnew_; clear hg_ hnew_; (first | rw [← Ny684.out] at ho69 | (simp only [Int.reduceToNat] at ho69; rw [← Ny684.out] at ho69)); have n0_ := Aside0.mk (Kd.V_elder' (by (with_reducible repeat (first | apply Kd.V_alloc | apply Kd.V_drewN | apply Kd.V_drew)); exact HO_0.out) (Kd.N_base ho69) hb); have n1_ := Aside0.mk (Kd.R_below (by (with_reducible repeat (first | apply Kd.R_alloc | apply Kd.R_drewN | apply Kd.R_drew)); exact HO_7.out) hb); have n2_ := Aside0.mk (Kd.N_elder' (by (with_reducible repeat (first | apply Kd.N_alloc | apply Kd.N_drewN | apply Kd.N_drew)); exact HO_10.out) (Kd.N_base ho69) hb); have n3_ := Aside0.mk (Kd.V_elder' (by (with_reducible repeat (first | apply Kd.V_alloc | apply Kd.V_drewN | apply Kd.V_drew)); exact HL683_0.out) (Kd.N_base ho69) hb); have n4_ := Aside0.mk (Kd.N_lower ho69 (below_size (by repeat (first | (with_reducible first | exact HB.out | apply below_alloc | apply pw_below_drewN | apply below_drew1) | exact HB.out)))); have n5_ := Aside0.mk (Kd.C_below (by repeat (first | (with_reducible exact HR683_0.out) | (with_reducible refine Kd.C_alloc ?_ _) | (with_reducible refine Kd.C_drewN ?_ _) | (with_reducible refine Kd.C_drew ?_) | exact HR683_0.out)) hb); have n6_ := Aside0.mk (below_step (by repeat (first | (with_reducible first | exact HB.out | apply below_alloc | apply pw_below_drewN | apply below_drew1) | exact HB.out)) hb); clear HO_0; clear HO_7; clear HO_10; clear HL683_0; clear HR683_0; clear HB; have HO_0 := n0_; have HO_7 := n1_; have HO_10 := n2_; have HL683_0 := n3_; have HO686 := n4_; have HR683_0 := n5_; have HB := n6_; clear n0_ n1_ n2_ n3_ n4_ n5_ n6_; clear hb ho69; obtain ⟨Ao71, co71, eo71⟩ := Kd.N_slice HO686.out; subst eo71) | ((with_reducible refine gate_builtin (b := .append) (xs := #[.tmp 57, .tmp 65]) rfl ?_); at_builtin; refine Kd.N_append_rows (Kd.slice 33 k33) (w0 := w) w.heap.size rfl (.tmp 57) (.tmp 65) 58 22 (.slice none 0 0) 24 rfl Try.underlying58 info22 rfl (by decide) (by omega) u10 x10_2 y684 _ _ _ (fun k_ => ((P0_ k_ ∨ P1_ k_) ∨ w.heap.size ≤ k_) ∧ some k_ ≠ (.slice (some ad682) x7_1.length co67 : Value).ownBlock) (fun k_ => ((fun k_ => ((P0_ k_ ∨ P1_ k_) ∨ w.heap.size ≤ k_) ∧ some k_ ≠ (.slice (some ad682) x7_1.length co67 : Value).ownBlock)) k_ ∧ some k_ ≠ (u10 : Value).ownBlock) rfl rfl ?aO ?aR (fun _ hk => hk) ?aF ?aB ?aS ?aL ?_; (case aR => exact (by skip; exact Kd.N_F (Kd.N_mono (ok' := (fun k_ => ((fun k_ => ((P0_ k_ ∨ P1_ k_) ∨ w.heap.size ≤ k_) ∧ some k_ ≠ (.slice (some ad682) x7_1.length co67 : Value).ownBlock)) k_ ∧ some k_ ≠ (u10 : Value).ownBlock)) (HO686.out) (fun k_ hk => ⟨⟨hk.1, hk.2.1⟩, hk.2.2⟩)))); (case aB => exact (by repeat (first | (with_reducible first | exact HB.out | apply below_alloc | apply pw_below_drewN | apply below_drew1) | exact HB.out))); (case aF => exact (fun k_ hk => ⟨(.inr (Nat.le_trans (below_size (by repeat (first | (with_reducible first | exact HB.out | apply below_alloc | apply pw_below_drewN | apply below_drew1) | exact HB.out))) hk)), Kd.fresh' (Kd.R_lt (by (with_reducible repeat (first | apply Kd.R_alloc | apply Kd.R_drewN | apply Kd.R_drew)); exact HO_7.out)) k_ hk⟩)); (case aO => exact (by (with_reducible repeat (first | apply Kd.N_alloc | apply Kd.N_drewN | apply Kd.N_drew)); exact Kd.N_mono HO_10.out (fun _ hk => ⟨hk.1.1, hk.1.2⟩))); (case aS => exact (below_size (by repeat (first | (with_reducible first | exact HB.out | apply below_alloc | apply pw_below_drewN | apply below_drew1) | exact HB.out)))); (case aL => have := LMc66.out; omega); intro v688 w70 ho hb hg hat; rw [← Ny687.out] at ho; have n0_ := Aside0.mk (Kd.V_afterv (ok := (fun k_ => ((P0_ k_ ∨ P1_ k_) ∨ w.heap.size ≤ k_) ∧ some k_ ≠ (.slice (some ad682) x7_1.length co67 : Value).ownBlock ∧ some k_ ≠ (.slice Ao71 y684.length co71 : Value).ownBlock)) (by (with_reducible repeat (first | apply Kd.V_alloc | apply Kd.V_drewN | apply Kd.V_drew)); exact Kd.V_mono HO_0.out (fun _ hk => ⟨⟨hk.1.1, ⟨hk.1.2.1, hk.2⟩⟩, hk.1.2.2⟩)) hg hat); have n1_ := Aside0.mk (Kd.R_over' (by (with_reducible repeat (first | apply Kd.R_alloc | apply Kd.R_drewN | apply Kd.R_drew)); exact HO_7.out) (Kd.N_typed (by (with_reducible repeat (first | apply Kd.N_alloc | apply Kd.N_drewN | apply Kd.N_drew)); exact HO_10.out)) (by decide) hg); have n2_ := Aside0.mk (Kd.V_afterv (ok := (fun k_ => ((P0_ k_ ∨ P1_ k_) ∨ w.heap.size ≤ k_) ∧ some k_ ≠ (.slice (some ad682) x7_1.length co67 : Value).ownBlock ∧ some k_ ≠ (.slice Ao71 y684.length co71 : Value).ownBlock)) (by (with_reducible repeat (first | apply Kd.V_alloc | apply Kd.V_drewN | apply Kd.V_drew)); exact Kd.V_mono HL683_0.out (fun _ hk => ⟨⟨hk.1.1, ⟨hk.1.2.1, hk.2⟩⟩, hk.1.2.2⟩)) hg hat); have n3_ := Aside0.mk (Kd.N_afterv (ok := (fun k_ => ((P0_ k_ ∨ P1_ k_) ∨ w.heap.size ≤ k_) ∧ some k_ ≠ (.slice (some ad682) x7_1.length co67 : Value).ownBlock)) (by (with_reducible repeat (first | apply Kd.N_alloc | apply Kd.N_drewN | apply Kd.N_drew)); exact Kd.N_mono HO686.out (fun _ hk => ⟨⟨hk.1, hk.2.1⟩, hk.2.2⟩)) hg hat); have n4_ := Aside0.mk (hb); have n5_ := Aside0.mk (ho); clear HO_0; clear HO_7; clear HL683_0; clear HO686; clear HB; clear HO_10; have HO_0 := n0_; have HO_7 := n1_; have HL683_0 := n2_; have HO686 := n3_; have HB := n4_; have HO689 := n5_; clear n0_ n1_ n2_ n3_ n4_ n5_; clear ho hb hg hat))
                      go_roundg k2
                      case measure => have := HK1.out; have := HK2.out; omega
                      case rel => exact ⟨(y687), (wrap64 (x11_2 + 1)), (by first | rfl | (simp; done) | (simp [*]; done)), H', ⟨by have := HK1.out; have := HK2.out; omega⟩, ⟨by (with_reducible repeat (first | apply Kd.V_alloc | apply Kd.V_drewN | apply Kd.V_drew)); exact Kd.V_mono HO_0.out (fun _ hk => ⟨hk.1.1, ⟨hk.1.2.1, hk.2⟩⟩)⟩, ⟨by (with_reducible repeat (first | apply Kd.R_alloc | apply Kd.R_drewN | apply Kd.R_drew)); exact HO_7.out⟩, ⟨by (with_reducible repeat (first | apply Kd.N_alloc | apply Kd.N_drewN | apply Kd.N_drew)); exact HO689.out⟩, ⟨by repeat (first | (with_reducible first | exact HB.out | apply below_alloc | apply pw_below_drewN | apply below_drew1) | exact HB.out)⟩⟩
                    · rw [if_neg c66] at H
                      exact absurd H (by simp)
                  · rw [if_neg c65] at H
                    exact absurd H (by simp)
                · rw [if_neg c64] at H
                  exact absurd H (by simp)
              · rw [if_neg c63] at H
                exact absurd H (by simp)
            · rw [if_neg c62] at H
              have c62b0 : decide (x11_2 < (x7_1.length : Int)) = false := decide_eq_false c62
              clear c62
              obtain rfl := Option.some.inj H
              obtain ⟨Ao72, co72, eo72⟩ := Kd.R_slice HO_7.out
              subst eo72
              go_wp2
              go_ret
              exact ⟨_, by first | rfl | (simp [errW_none, errW_some] <;> rfl) | (simp [*, errW_none, errW_some] <;> rfl), by (with_reducible repeat (first | apply Kd.N_alloc | apply Kd.N_drewN | apply Kd.N_drew)); exact Kd.N_mono HO_10.out (fun _ hk => hk.1), by repeat (first | (with_reducible first | exact HB.out | apply below_alloc | apply pw_below_drewN | apply below_drew1) | exact HB.out)⟩
end Go.Proofs.Ythghflgmeepnlaa.Pa
end
section
namespace Go.Proofs.Ythghflgmeepnlaa.Pa
open Go.RowKit Go.Proofs.YthghflgmeepnlaaW.PrintWords Go.Proofs.YthghflgmeepnlaaW.PrintLast Go.Proofs.YthghflgmeepnlaaW.PrintMore
set_option linter.unusedVariables false
set_option linter.unusedSimpArgs false
theorem right_size {x : S33} (h : rightV x = 0) : x.f2.size ≤ 1100 := by
  by_cases h3 : x.f0 = 3
  · have := right_small h h3; omega
  · have e : txt x.f2 = [] := by
      unfold rightV at h
      by_cases h0 : x.f0 = 0
      · rw [if_pos h0] at h
        by_cases q : x.f1 = 0 ∧ txt x.f2 = []
        · exact q.2
        · rw [if_neg q] at h; cases h
      · rw [if_neg h0] at h
        by_cases h1 : x.f0 = 1
        · rw [if_pos h1] at h
          by_cases q : (x.f1 = 0 ∨ x.f1 = 1) ∧ txt x.f2 = []
          · exact q.2
          · rw [if_neg q] at h; cases h
        · rw [if_neg h1] at h
          by_cases h2 : x.f0 = 2
          · rw [if_pos h2] at h
            by_cases q : txt x.f2 = []
            · exact q
            · rw [if_neg q] at h; cases h
          · rw [if_neg h2, if_neg h3] at h; cases h
    have l := txt_length x.f2
    rw [e] at l
    simp at l
    omega
/-- R.Order is how two keys stand. -/
theorem rorder11 (x0 x1 : List S33) (d : List Bool) (h0 : gR x0) (h1 : gR x1) (hd : d.length ≤ maxLen) (k : Nat) : cordonref11_Order.f (k + 2400) x0 x1 d = some (ordD x0 x1 d) := by
  have hro : ∀ (i k : Nat), i < x0.length → i < x1.length → cordonref01_Order.f (k + 2202) (rd_T33 x0 (i : Int)).f0 (rd_T33 x0 (i : Int)).f1 (rd_T33 x0 (i : Int)).f2 (rd_T33 x1 (i : Int)).f0 (rd_T33 x1 (i : Int)).f1 (rd_T33 x1 (i : Int)).f2 = some (ordS (rd_T33 x0 (i : Int)) (rd_T33 x1 (i : Int))) := fun i k hi hj =>
    rorder_is _ _ (right_size (h0.2 _ (by
      have e : rd_T33 x0 (i : Int) = x0[i] := by unfold rd_T33; simp [List.getD_eq_getElem?_getD, List.getElem?_eq_getElem hi]
      rw [e]; exact List.getElem_mem hi)).1) k
  have g0 := h0.1
  have g1 := h1.1
  unfold cordonref11_Order.f
  obtain ⟨m, hm1, hm2, hm3, hm4⟩ : ∃ m, x0.length ≤ m ∧ x1.length ≤ m ∧ (m = x0.length ∨ m = x1.length) ∧ m ≤ 40 := by
    rcases Nat.le_total x0.length x1.length with q | q
    · exact ⟨x1.length, q, Nat.le_refl _, .inr rfl, g1⟩
    · exact ⟨x0.length, Nat.le_refl _, q, .inl rfl, g0⟩
  have := rorder_l0 x0 x1 d (by omega) (by omega) hd hro m 0 (k + 190 - 4 * m) (by omega) (by omega) (by omega)
  rw [show k + 190 - 4 * m + 4 * m + 2210 = k + 2400 by omega] at this
  simpa using this
theorem keyL_gR {keys : List (List S33)} (h : ∀ r ∈ keys, gR r) (i : Nat) : gR (keyL keys i) := by
  unfold keyL
  by_cases q : i < keys.length
  · rw [List.getD_eq_getElem?_getD, List.getElem?_eq_getElem q]; exact h _ (List.getElem_mem q)
  · rw [List.getD_eq_getElem?_getD, List.getElem?_eq_none (by omega)]; exact ⟨by simp, by simp⟩
theorem rkey_is (keys : List (List S33)) (i : Nat) : cordonref11_key.f keys (i : Int) = some (keyL keys i) := by
  unfold cordonref11_key.f
  by_cases q : (i : Int) < (keys.length : Int)
  · rw [if_pos q, if_pos (by omega), keyL_rd]
  · rw [if_neg q]
    unfold keyL
    rw [List.getD_eq_getElem?_getD, List.getElem?_eq_none (by omega)]; rfl
/-- One place put in, from behind. -/
def insR (cf : Nat → Nat → Int) (i : Nat) : List Nat → List Nat → List Nat
  | [], V => i :: V
  | u :: U, V => if cf u i > 0 then insR cf i U (u :: V) else (u :: U).reverse ++ i :: V
theorem insR_pos {cf : Nat → Nat → Int} {i u : Nat} {U V : List Nat} (c : cf u i > 0) : insR cf i (u :: U) V = insR cf i U (u :: V) := by rw [insR, if_pos c]
theorem insR_neg {cf : Nat → Nat → Int} {i u : Nat} {U V : List Nat} (c : ¬ cf u i > 0) : insR cf i (u :: U) V = (u :: U).reverse ++ i :: V := by rw [insR, if_neg c]
theorem insR_ok {cf : Nat → Nat → Int} (h : OrdP cf) (i : Nat) : ∀ (U V : List Nat), (U.reverse ++ V).Pairwise (ltP cf) → (∀ x ∈ U, x < i) → (∀ v ∈ V, cf v i > 0) →
    (insR cf i U V).Perm (i :: (U.reverse ++ V)) ∧ (insR cf i U V).Pairwise (ltP cf)
  | [], V, hs, hu, hv => by
    refine ⟨by simp [insR], ?_⟩
    unfold insR
    refine List.pairwise_cons.2 ⟨fun v hv' => .inl (by have := hv v hv'; have := h.anti i v; omega), by simpa using hs⟩
  | u :: U, V, hs, hu, hv => by
    unfold insR
    by_cases c : cf u i > 0
    · rw [if_pos c]
      have e : (u :: U).reverse ++ V = U.reverse ++ (u :: V) := by simp
      rw [e] at hs ⊢
      exact insR_ok h i U (u :: V) hs (fun x hx => hu x (List.mem_cons_of_mem _ hx)) (fun v hv' => by
        rcases List.mem_cons.1 hv' with q | q
        · rw [q]; exact c
        · exact hv v q)
    · rw [if_neg c]
      refine ⟨List.perm_middle, ?_⟩
      have hui : ltP cf u i := by
        have := hu u (by simp)
        rcases Int.lt_or_eq_of_le (Int.not_lt.1 c) with q | q
        · exact .inl q
        · exact .inr ⟨q, this⟩
      refine put_ok hs (fun x hx => ?_) (fun v hv' => .inl (by have := hv v hv'; have := h.anti i v; omega))
      rw [List.reverse_cons] at hx hs
      rcases List.mem_append.1 hx with q | q
      · have h1 := (List.pairwise_append.1 (List.pairwise_append.1 hs).1).2.2 x q u (by simp)
        exact ltP_trans h h1 hui
      · rw [List.mem_singleton.1 q]; exact hui
theorem insR_len (cf : Nat → Nat → Int) (i : Nat) : ∀ (U V : List Nat), (insR cf i U V).length = U.length + V.length + 1
  | [], V => by simp [insR]
  | u :: U, V => by
    unfold insR
    split
    · rw [insR_len cf i U (u :: V)]; simp; omega
    · simp; omega
abbrev zN (l : List Nat) : List Int := l.map (fun (n : Nat) => (n : Int))
theorem rd_mid (A B : List Nat) (x : Nat) : rd (zN (A ++ x :: B)) (A.length : Int) = (x : Int) := by
  unfold rd zN
  rw [Int.toNat_natCast, List.map_append, List.getD_eq_getElem?_getD, List.getElem?_append_right (by simp)]
  simp
theorem rout_l2 (l : List (List S33)) (Z : List Nat) (hZ : ∀ z ∈ Z, z < l.length) (hn : Z.length < 1000000) (m : Nat) : ∀ (j K : Nat) (out : List (List S33)), j + m = Z.length → out.length = j → K ≥ m + 1 → cordonref11_Sort.l2 K l (zN Z) out (j : Int) = some (out ++ (Z.drop j).map (keyL l)) := by
  induction m with
  | zero =>
    intro j K out hj ho hK
    obtain ⟨K', rfl⟩ : ∃ K', K = K' + 1 := ⟨K - 1, by omega⟩
    rw [cordonref11_Sort.l2, if_neg (by simp [zN]; omega), List.drop_eq_nil_of_le (by omega)]
    simp
  | succ m ih =>
    intro j K out hj ho hK
    obtain ⟨K', rfl⟩ : ∃ K', K = K' + 1 := ⟨K - 1, by omega⟩
    have hjz : j < Z.length := by omega
    have hr : rd (zN Z) (j : Int) = (Z[j] : Int) := by
      unfold rd zN
      rw [Int.toNat_natCast, List.getD_eq_getElem?_getD, List.getElem?_map, List.getElem?_eq_getElem hjz]
      rfl
    have hz := hZ Z[j] (List.getElem_mem hjz)
    rw [cordonref11_Sort.l2, if_pos (by simp [zN]; omega), hr, if_pos (by omega), if_pos (by omega), if_pos (by omega), Option.bind_some, if_pos (by simp; omega), wrapN j (by omega), keyL_rd,
      ih (j + 1) K' _ (by omega) (by simp; omega) (by omega), List.drop_eq_getElem_cons hjz, List.append_assoc]
    rfl
section
variable (l keys : List (List S33)) (d : List Bool) (hk : ∀ r ∈ keys, gR r) (hd : d.length ≤ maxLen)
include hk hd
theorem rins_l1 (i : Nat) (hi : i < 1000000) : ∀ (U V : List Nat) (K : Nat), U.length + V.length < 1000000 → K ≥ U.length + 2402 → ∃ K', K ≤ K' + U.length + 1 ∧
    cordonref11_Sort.l1 K l keys d (zN (U.reverse ++ V)) (i : Int) (U.length : Int) = cordonref11_Sort.l0 K' l keys d (zN (insR (fun a b => ordD (keyL keys a) (keyL keys b) d) i U V)) ((i + 1 : Nat) : Int)
  | [], V, K, hl, hK => by
    obtain ⟨K', rfl⟩ : ∃ K', K = K' + 1 := ⟨K - 1, by omega⟩
    refine ⟨K', by simp, ?_⟩
    have hw : wrap64 ((i : Int) + 1) = ((i + 1 : Nat) : Int) := by unfold wrap64; omega
    rw [cordonref11_Sort.l1, if_neg (by simp), hw]
    have hl2 : V.length < 1000000 := by simpa using hl
    simp only [Option.bind_some, List.length_nil, insR, List.reverse_nil, List.nil_append]
    rw [if_pos (by simp), if_pos (by simp), if_pos (by simp), if_pos (by simp), if_pos (by simp; omega)]
    simp
  | u :: U, V, K, hl, hK => by
    obtain ⟨K', rfl⟩ : ∃ K', K = K' + 1 := ⟨K - 1, by omega⟩
    simp only [List.length_cons] at hl hK ⊢
    have hw : wrap64 ((i : Int) + 1) = ((i + 1 : Nat) : Int) := by unfold wrap64; omega
    have hw2 : wrap64 (((U.length + 1 : Nat) : Int) - 1) = (U.length : Int) := by unfold wrap64; omega
    have e : (u :: U).reverse ++ V = U.reverse ++ (u :: V) := by simp
    have hrd : rd (zN (U.reverse ++ (u :: V))) (U.length : Int) = (u : Int) := by
      have := rd_mid U.reverse V u
      rwa [List.length_reverse] at this
    have ho : cordonref11_Order.f K' (keyL keys u) (keyL keys i) d = some (ordD (keyL keys u) (keyL keys i) d) := by
      have := rorder11 (keyL keys u) (keyL keys i) d (keyL_gR hk u) (keyL_gR hk i) hd (K' - 2400)
      rwa [show K' - 2400 + 2400 = K' by omega] at this
    rw [cordonref11_Sort.l1, if_pos (by omega), hw2, if_pos (by omega), if_pos (by simp; omega), e, hrd, rkey_is, Option.bind_some, rkey_is, Option.bind_some, ho, Option.bind_some]
    by_cases c : ordD (keyL keys u) (keyL keys i) d > 0
    · rw [if_pos c]
      obtain ⟨K2, h1, h2⟩ := rins_l1 i hi U (u :: V) K' (by simp; omega) (by omega)
      refine ⟨K2, by omega, ?_⟩
      rw [h2, insR_pos (cf := fun a b => ordD (keyL keys a) (keyL keys b) d) c]
    · rw [if_neg c]
      refine ⟨K', by omega, ?_⟩
      rw [hw, insR_neg (cf := fun a b => ordD (keyL keys a) (keyL keys b) d) c]
      simp only [Option.bind_some, List.length_nil]
      rw [if_pos (by omega), if_pos (by simp; omega), if_pos (by simp; omega), if_pos (by simp; omega), if_pos (by simp; omega)]
      congr 1
      rw [Int.toNat_natCast]
      have e2 : zN (U.reverse ++ u :: V) = (zN (U.reverse ++ [u])) ++ zN V := by simp [zN]
      have l2 : (zN (U.reverse ++ [u])).length = U.length + 1 := by simp [zN]
      rw [e2, ← l2, List.take_left, List.drop_left]
      simp [zN]
theorem rsort_l0 (hl : l.length ≤ 40) (m : Nat) : ∀ (i K : Nat) (A : List Nat), i + m = l.length → A.length = i → A.Perm (List.range i) → A.Pairwise (ltP (fun a b => ordD (keyL keys a) (keyL keys b) d)) → K ≥ m * 50 + 2500 →
    ∃ Z : List Nat, Z.Perm (List.range l.length) ∧ Z.Pairwise (ltP (fun a b => ordD (keyL keys a) (keyL keys b) d)) ∧ cordonref11_Sort.l0 K l keys d (zN A) (i : Int) = some (Z.map (keyL l)) := by
  induction m with
  | zero =>
    intro i K A hi hA hp hs hK
    obtain ⟨K', rfl⟩ : ∃ K', K = K' + 1 := ⟨K - 1, by omega⟩
    have e : i = l.length := by omega
    subst e
    refine ⟨A, hp, hs, ?_⟩
    rw [cordonref11_Sort.l0, if_neg (by omega)]
    have := rout_l2 l A (fun z hz => by simpa using hp.mem_iff.1 hz) (by omega) A.length 0 K' [] (by omega) rfl (by omega)
    simpa using this
  | succ m ih =>
    intro i K A hi hA hp hs hK
    obtain ⟨K', rfl⟩ : ∃ K', K = K' + 1 := ⟨K - 1, by omega⟩
    have ho := ordP_keys keys d
    obtain ⟨K2, h1, h2⟩ := rins_l1 l keys d hk hd i (by omega) A.reverse [] K' (by simp; omega) (by simp; omega)
    rw [List.reverse_reverse, List.append_nil] at h2
    rw [List.length_reverse] at h1 h2
    have hok := insR_ok ho i A.reverse [] (by simpa using hs) (fun x hx => by have := hp.mem_iff.1 (List.mem_reverse.1 hx); simpa using this) (by simp)
    rw [List.reverse_reverse, List.append_nil] at hok
    have hlen := insR_len (fun a b => ordD (keyL keys a) (keyL keys b) d) i A.reverse []
    rw [List.length_reverse] at hlen
    obtain ⟨Z, p, s, e⟩ := ih (i + 1) K2 _ (by omega) (by rw [hlen]; simp; omega) (hok.1.trans (by
      rw [List.range_succ]
      exact (List.Perm.cons i hp).trans (List.perm_append_comm (l₁ := [i])))) hok.2 (by omega)
    refine ⟨Z, p, s, ?_⟩
    rw [cordonref11_Sort.l0, if_pos (by omega)]
    have e3 : ((zN A).length : Int) = (A.length : Int) := by simp [zN]
    rw [e3, h2, e]
/-- R.Sort is the rows at the places, sorted. -/
theorem rsort_is (hl : l.length ≤ 40) : ∃ (k : Nat) (Z : List Nat), Z.Perm (List.range l.length) ∧ Z.Pairwise (ltP (fun a b => ordD (keyL keys a) (keyL keys b) d)) ∧ cordonref11_Sort.f k l keys d = some (Z.map (keyL l)) := by
  obtain ⟨Z, p, s, e⟩ := rsort_l0 l keys d hk hd hl l.length 0 (l.length * 50 + 2500) [] (by omega) rfl (by simp) List.Pairwise.nil (Nat.le_refl _)
  exact ⟨_, Z, p, s, by unfold cordonref11_Sort.f; exact e⟩
end
end Go.Proofs.Ythghflgmeepnlaa.Pa
end
section
namespace Go.Proofs.Ythghflgmeepnlaa.Pa
open Go.RowKit Go.Proofs.YthghflgmeepnlaaW.PrintWords Go.Proofs.YthghflgmeepnlaaW.PrintLast Go.Proofs.YthghflgmeepnlaaW.PrintMore
set_option linter.unusedVariables false
set_option linter.unusedSimpArgs false
theorem made_ints (n : Nat) : madeCells (Value.int .i64 0).cells (n * 1) = ((List.replicate n 0).map enN).toArray := by
  rw [Nat.mul_one]
  apply Array.ext'
  simp [madeCells, Value.cells]
  apply List.ext_getElem
  · simp
  · intro i h1 h2
    simp [Nat.mod_one]
theorem make_ints (n : Nat) (h : n < 1000000000) (w : World) :
    Sem.run Try.prog (Instr.makeSlice 23 (.int .i64 (n : Int)) (.int .i64 (n : Int))) w = Result.ok (.slice (some ⟨w.heap.size, 0, none⟩) n n) (w.alloc (.cells ((List.replicate n 0).map enN).toArray 3)) := by
  obtain ⟨i, hi, hz0, hz1, hz2⟩ := info_parts (show (Try.prog.info? 3).map (fun i => (i.zero, i.size, i.bytes)) = some (some (.int .i64 0), 1, 8) from by kernel_rfl)
  have := run_make (P := Try.prog) w 23 3 i (.int .i64 0) Try.underlying23 hi hz0 .i64 .i64 n n (by omega) (Int.le_refl _) (by rw [hz2]; omega) (by omega)
  rw [Int.toNat_natCast, hz1, made_ints] at this
  exact this
theorem al_size (w : World) (o : Obj) : (w.alloc o).heap.size = w.heap.size + 1 := by show (w.heap.push o).size = _; simp
theorem al3 (w : World) (a b c : Obj) : (((w.alloc a).alloc b).alloc c).heap[w.heap.size]? = some a ∧ (((w.alloc a).alloc b).alloc c).heap[w.heap.size + 1]? = some b ∧ (((w.alloc a).alloc b).alloc c).heap[w.heap.size + 2]? = some c := by
  refine ⟨?_, ?_, ?_⟩
  · rw [heap_alloc_old _ c (by rw [al_size, al_size]; omega)]; exact heap_alloc2_old w a b
  · rw [heap_alloc_old _ c (by rw [al_size, al_size]; omega)]; exact heap_alloc2_new w a b
  · have := heap_alloc_new ((w.alloc a).alloc b) c
    rwa [al_size, al_size] at this
/-- The two boxes of a call, and what lay ahead of it. -/
structure Boxes (w : World) (kv dv : Value) (W : World) : Prop where
  kb : W.heap[w.heap.size]? = some (.cells #[kv] 58 (0, 0))
  db : W.heap[w.heap.size + 1]? = some (.cells #[dv] 59 (0, 0))
  below : Below w.heap.size w W
theorem Boxes.grown {w W W1 : World} {kv dv : Value} (h : Boxes w kv dv W) (hg : W.grownBy W1 (some (w.heap.size + 2))) : Boxes w kv dv W1 :=
  ⟨(hg.block _ (lt_of_block h.kb) (by simp)).trans h.kb, (hg.block _ (lt_of_block h.db) (by simp)).trans h.db, pw_below_grown h.below _ h.below.size hg (fun k hk => by injection hk with hk; omega)⟩
theorem Boxes.later {w W W1 : World} {kv dv : Value} (h : Boxes w kv dv W) (hb : Below W.heap.size W W1) : Boxes w kv dv W1 :=
  ⟨(hb.block _ (lt_of_block h.kb)).trans h.kb, (hb.block _ (lt_of_block h.db)).trans h.db, below_step h.below hb⟩
theorem cmp_ok {W : World} {fb kb db g N b1 b2 : Nat} {A1 A2 : Option Addr} {c1 c2 : Nat} {keys : List (List S33)} {desc : List Bool} {ok1 ok2 : Nat → Prop}
    (hf : W.heap[fb]? = some (.cells #[.func (.func 93) #[] #[.pointer (some ⟨kb, 0, none⟩)]] 100 (0, 0)))
    (hk : W.heap[kb]? = some (.cells #[.slice A1 keys.length c1] 58 (0, 0))) (hd : W.heap[db]? = some (.cells #[.slice A2 desc.length c2] 59 (0, 0)))
    (nf : fb ≠ g) (nk : kb ≠ g) (nd : db ≠ g) (h1 : Kd.V (Kd.slice 33 k33) 22 W b1 ok1 (.slice A1 keys.length c1) keys) (h2 : Kd.V Kd.bool 4 W b2 ok2 (.slice A2 desc.length c2) desc)
    (n1 : ∀ k, ok1 k → k ≠ g) (n2 : ∀ k, ok2 k → k ≠ g) (hkl : ∀ r ∈ keys, r.length < 1000000000) (hdn : desc.length ≤ maxLen) :
    CmpOk 95 #[.pointer (some ⟨fb, 0, none⟩), .pointer (some ⟨db, 0, none⟩)] (fun i j => ordD (keyL keys i) (keyL keys j) desc) N g W := by
  refine ⟨fun x y W1 => enter_of Try.func95 (by kernel_rfl) (by kernel_rfl) _ W1, fun W1 x y hW _ _ => ?_⟩
  have e : (#[enN x, enN y] ++ #[Value.pointer (some ⟨fb, 0, none⟩), Value.pointer (some ⟨db, 0, none⟩)]) = #[enN x, enN y, Value.pointer (some ⟨fb, 0, none⟩), Value.pointer (some ⟨db, 0, none⟩)] := rfl
  rw [e]
  have r1 := Kd.V_reads' (Kd.V_grown h1 hW (fun k hk he => n1 k hk (by injection he)))
  have r2 := Kd.V_reads' (Kd.V_grown h2 hW (fun k hk he => n2 k hk (by injection he)))
  exact cmp_calls x y fb kb db A1 c1 keys A2 c2 desc W1 (cell_of_one ((hW.block _ (lt_of_block hf) (fun he => nf (by injection he))).trans hf))
    (cell_of_one ((hW.block _ (lt_of_block hk) (fun he => nk (by injection he))).trans hk)) (cell_of_one ((hW.block _ (lt_of_block hd) (fun he => nd (by injection he))).trans hd))
    r1.2.2 r2.2.2 r2.2.1 hkl hdn
set_option maxHeartbeats 8000000 in
set_option maxRecDepth 1000000 in
theorem Sort_calls (P0_ P1_ P2_ : Nat → Prop) (A0 : Option Addr) (c0 : Nat) (l0 : List (List S33)) (A1 : Option Addr) (c1 : Nat) (keys : List (List S33)) (A2 : Option Addr) (c2 : Nat) (desc : List Bool) (w : World)
    (hs0 : Kd.V (Kd.slice 33 k33) 22 w w.heap.size (fun k_ => P0_ k_) (.slice A0 l0.length c0) l0)
    (hs1 : Kd.V (Kd.slice 33 k33) 22 w w.heap.size (fun k_ => P1_ k_) (.slice A1 keys.length c1) keys)
    (hs2 : Kd.V Kd.bool 4 w w.heap.size (fun k_ => P2_ k_) (.slice A2 desc.length c2) desc)
    (hl : l0.length < 1000000000) (hkl : ∀ r ∈ keys, r.length < 1000000000) (hdn : desc.length ≤ maxLen)
    (ys : List Nat) (hyl : ys.length = l0.length) (hys : ∀ y ∈ ys, y < l0.length)
    (hsort : ∀ (fk : Nat) (caps : Array Value) (g : Nat) (W : World), CmpOk fk caps (fun i j => ordD (keyL keys i) (keyL keys j) desc) l0.length g W → HoldI W g (List.range l0.length) →
      Calls Try.prog 94 #[.slice (some ⟨g, 0, none⟩) l0.length l0.length, .func (.func fk) #[] caps] W fun e w' => e = .returned (.tuple #[]) ∧ W.grownBy w' (some g) ∧ HoldI w' g ys) :
    Calls Try.prog 57 #[.slice A0 l0.length c0, .slice A1 keys.length c1, .slice A2 desc.length c2] w fun e w' => ∃ v0_ : Value, e = .returned (v0_) ∧ Kd.N (Kd.slice 33 k33) 22 w' w.heap.size (fun k_ => (P0_ k_ ∨ w.heap.size ≤ k_)) v0_ (ys.map (keyL l0)) ∧ Below w.heap.size w w' := by
  have hmk := make_ints l0.length hl
  have hmf : ∀ (fn : Fn) (first cap : Array Value) (w : World), (Instr.makeFunc fn first cap).run Try.prog w = .ok (.func fn first cap) w := fun _ _ _ _ => rfl
  have HV0 := Aside0.mk (Kd.V_bound hs0)
  have HV1 := Aside0.mk (Kd.V_bound hs1)
  have HV2 := Aside0.mk (Kd.V_bound hs2)
  have HB := Aside0.mk (Below.refl w.heap.size w)
  have HS := Aside0.mk hsort
  have HY := Aside0.mk hys
  have HYL := Aside0.mk hyl
  have HKL := Aside0.mk hkl
  have HDN := Aside0.mk hdn
  have HL := Aside0.mk hl
  clear hs0 hs1 hs2 hsort hys hyl hkl hdn hl
  go_enter Try.func57, Try.ntmps57
  go_wp2_with fail
  obtain ⟨ha1, ha2, ha3⟩ := al3 w (Obj.cells #[Value.slice A1 keys.length c1] 58) (Obj.cells #[Value.slice A2 desc.length c2] 59) (Obj.cells (Array.replicate l0.length (enN 0)) 3)
  have HX := Aside0.mk (show Boxes w (.slice A1 keys.length c1) (.slice A2 desc.length c2) (((w.alloc (Obj.cells #[Value.slice A1 keys.length c1] 58)).alloc (Obj.cells #[Value.slice A2 desc.length c2] 59)).alloc (Obj.cells (Array.replicate l0.length (enN 0)) 3)) from ⟨ha1, ha2, below_alloc (below_alloc (below_alloc HB.out _) _) _⟩)
  have HH := Aside0.mk (show HoldI (((w.alloc (Obj.cells #[Value.slice A1 keys.length c1] 58)).alloc (Obj.cells #[Value.slice A2 desc.length c2] 59)).alloc (Obj.cells (Array.replicate l0.length (enN 0)) 3)) (w.heap.size + 2) (List.range 0 ++ List.replicate (l0.length - 0) 0) by
    unfold HoldI
    rw [ha3]
    congr 2
    apply Array.ext'
    simp)
  clear ha1 ha2 ha3
  generalize (((w.alloc (Obj.cells #[Value.slice A1 keys.length c1] 58)).alloc (Obj.cells #[Value.slice A2 desc.length c2] 59)).alloc (Obj.cells (Array.replicate l0.length (enN 0)) 3)) = W1 at HX HH ⊢
  obtain ⟨g, hgE⟩ : ∃ g, g = w.heap.size + 1 + 1 := ⟨_, rfl⟩
  have HGE := Aside0.mk (show g = w.heap.size + 2 from hgE)
  rw [← HGE.out] at HH
  rw [← hgE]
  clear hgE
  go_loopg [18] l0.length (fun kq v18 w' => ∃ i : Nat, v18 = .int .i64 (i : Int) ∧ Aside0 (i + kq = l0.length) ∧ Aside0 (HoldI w' g (List.range i ++ List.replicate (l0.length - i) 0)) ∧ Aside0 (Boxes w (.slice A1 keys.length c1) (.slice A2 desc.length c2) w'))
  case atStart => exact ⟨0, rfl, ⟨by simp⟩, HH, HX⟩
  case round =>
    clear HH HX
    obtain ⟨i, rfl, HI, HH, HX⟩ := hrel
    by_cases c2 : (i : Int) < (l0.length : Int)
    · have c2b : decide ((i : Int) < (l0.length : Int)) = true := decide_eq_true c2
      obtain ⟨k1, rfl⟩ : ∃ k1, gk = k1 + 1 := ⟨gk - 1, by have := HI.out; omega⟩
      have p0 : (0 : Int) ≤ i := by omega
      have hli := HL.out
      have HW := Aside0.mk (show wrap64 ((i : Int) + 1) = ((i + 1 : Nat) : Int) by unfold wrap64; omega)
      clear hli
      have hx : (List.range i ++ List.replicate (l0.length - i) 0)[i]? = some 0 := by
        rw [List.getElem?_append_right (by simp), List.length_range, Nat.sub_self, List.getElem?_replicate, if_pos (by omega)]
      have hc1 := HH.out.cell hx
      have hf1 := HH.out.free i
      clear hx
      have HN := Aside0.mk (show HoldI (wr.setCell ⟨g, i, none⟩ (enN i)) g (List.range (i + 1) ++ List.replicate (l0.length - (i + 1)) 0) by
        have h1 := HH.out.set i i
        rwa [List.set_append_right _ _ (by simp), List.length_range, Nat.sub_self, show l0.length - i = (l0.length - (i + 1)) + 1 by omega, List.replicate_succ, List.set_cons_zero, List.append_cons, ← List.range_succ] at h1)
      have HXN := Aside0.mk (Boxes.grown HX.out (show wr.grownBy (wr.setCell ⟨g, i, none⟩ (enN i)) (some (w.heap.size + 2)) by rw [← HGE.out]; exact gr_set ⟨rfl, rfl, rfl, Nat.le_refl _, fun _ _ _ => rfl⟩ _))
      go_wp2
      go_roundg k1
      case measure => omega
      case rel => exact ⟨i + 1, by rw [HW.out], ⟨by have := HI.out; omega⟩, HN, HXN⟩
    · have c2b : decide ((i : Int) < (l0.length : Int)) = false := decide_eq_false c2
      have e13 : i = l0.length := by have := HI.out; omega
      subst e13
      have HH2 := Aside0.mk (show HoldI wr g (List.range l0.length) by have h1 := HH.out; rwa [Nat.sub_self, List.replicate_zero, List.append_nil] at h1)
      clear HH
      have hna : (wr.alloc (.cells #[.nilFunc] 100)).heap[wr.heap.size]? = some (.cells #[.nilFunc] 100 (0, 0)) := heap_alloc_new _ _
      have hca := cell_of_one hna
      have hfa := free_of_one hna
      obtain ⟨F, hF⟩ : ∃ F, F = Value.func (Fn.func 93) #[] #[Value.pointer (some { block := w.heap.size, off := 0 })] := ⟨_, rfl⟩
      have hnF := one_setCell (u := F) hna
      have hBF : Below wr.heap.size wr (wr.alloc (.cells #[F] 100)) := (Below.refl _ _).alloc (Nat.le_refl _) _
      have hNF : (wr.alloc (.cells #[F] 100)).heap[wr.heap.size]? = some (.cells #[F] 100 (0, 0)) := heap_alloc_new _ _
      rw [hF] at hNF hBF
      have HBF := Aside0.mk hBF
      have HNF := Aside0.mk hNF
      clear hna hnF hF hNF hBF
      go_wp2_with fail
      generalize hWW : (wr.alloc (Obj.cells #[Value.func (Fn.func 93) #[] #[Value.pointer (some { block := w.heap.size, off := 0 })]] 100)) = W2 at HBF HNF ⊢
      clear hWW
      have HX2 := Aside0.mk (HX.out.later HBF.out)
      have HH3 := Aside0.mk (HH2.out.below HBF.out)
      have HFB := Aside0.mk (show wr.heap.size ≠ g by have := HH2.out.lt; omega)
      have hge := HGE.out
      have HCK := cmp_ok (N := l0.length) HNF.out HX2.out.kb HX2.out.db HFB.out (by omega) (by omega) (Kd.V_below HV1.out HX2.out.below) (Kd.V_below HV2.out HX2.out.below) (fun k hk => by have := hk.2; omega) (fun k hk => by have := hk.2; omega) HKL.out HDN.out
      refine (HS.out _ _ _ _ HCK HH3.out).mono ?_
      rintro e w3 ⟨rfl, hg3, hh3⟩
      rw [hge] at hg3
      have HX3 := Aside0.mk (HX2.out.grown hg3)
      have HY3 := Aside0.mk hh3
      have HV3 := Aside0.mk (Kd.V_below HV0.out HX3.out.below)
      have HB3 := Aside0.mk HX3.out.below
      clear hge HCK hg3 hh3 HX HH2 HBF HNF HX2 HH3 HFB HV1 HV2 HS HKL HDN hmk hmf
      go_wp2_with fail
      go_loopg [10, 32] l0.length (fun kq v10 v32 w' => ∃ (i : Nat), v32 = .int .i64 (i : Int) ∧ Aside0 (i + kq = l0.length) ∧ Aside0 (HoldI w' g ys) ∧ Aside0 (Kd.V (Kd.slice 33 k33) 22 w' w.heap.size (fun k_ => P0_ k_ ∧ k_ < w.heap.size) (.slice A0 l0.length c0) l0) ∧ Aside0 (Kd.N (Kd.slice 33 k33) 22 w' w.heap.size (fun k_ => (P0_ k_ ∧ k_ < w.heap.size) ∨ g < k_) v10 ((ys.take i).map (keyL l0))) ∧ Aside0 (Below w.heap.size w w'))
      case atStart => exact ⟨0, rfl, ⟨by simp⟩, HY3, HV3, ⟨by simpa using Kd.N_nil _ _ _ _ _⟩, HB3⟩
      case round =>
        clear HY3 HV3 HB3 HX3
        obtain ⟨i, rfl, HI, HH, HV, HN, HB⟩ := hrel
        by_cases c3 : (i : Int) < (l0.length : Int)
        · have c3b : decide ((i : Int) < (l0.length : Int)) = true := decide_eq_true c3
          obtain ⟨k1, rfl⟩ : ∃ k1, gk = k1 + 1 := ⟨gk - 1, by have := HI.out; omega⟩
          have p0 : (0 : Int) ≤ i := by omega
          have hli := HL.out
          have HW := Aside0.mk (show wrap64 ((i : Int) + 1) = ((i + 1 : Nat) : Int) by unfold wrap64; omega)
          have hiy : i < ys.length := by have := HYL.out; omega
          obtain ⟨y, hy⟩ : ∃ y, ys[i]? = some y := ⟨ys[i], List.getElem?_eq_getElem hiy⟩
          have hyl := HY.out y (List.mem_of_getElem? hy)
          have hcy := HH.out.cell hy
          have p1 : (0 : Int) ≤ (y : Int) := by omega
          have q1 : (y : Int) < (l0.length : Int) := by omega
          have q1b : decide ((y : Int) < (l0.length : Int)) = true := decide_eq_true q1
          have HT := Aside0.mk (show (ys.take i).map (keyL l0) ++ [keyL l0 y] = (ys.take (i + 1)).map (keyL l0) by
            rw [List.take_add_one, hy]; simp)
          have HTL := Aside0.mk (show ((ys.take i).map (keyL l0)).length < 1000000000 by rw [List.length_map, List.length_take]; omega)
          clear hli hiy hy hyl
          obtain ⟨ad, Ay, cy, e1, hx1, hl1, hi1⟩ := at_L4 (Kd.V_reads' HV.out).2.2 (y : Int) p1 q1
          cases e1
          obtain ⟨ce, hce, hMe, hcc⟩ := Kd.V_get HV.out [] (y : Int) p1 q1
          obtain ⟨ua, uc, rfl, ul, ge⟩ := Kd.FK_slice_open hMe
          have hv := hcc 0 _ rfl
          rw [Nat.add_zero, show ((Kd.slice 33 k33)).sz = 1 from rfl, Nat.mul_one] at hv
          replace hv := Option.some.inj (hv.symm.trans hx1)
          injection hv with hva_ hvn_ hvc_
          rw [hva_] at ge
          rw [hvc_] at ul
          rw [show l0.getD (y : Int).toNat [] = keyL l0 y by simp [keyL]] at ge ul
          have HF := Aside0.mk (show Kd.V k33 33 _ w.heap.size _ (.slice Ay (keyL l0 y).length cy) (keyL l0 y) from Kd.V_mk ul ge)
          clear hva_ hvn_ hvc_ ge ul hcc hce hMe hi1 hl1
          rw [keyL_rd] at hx1
          simp only [Int.toNat_natCast] at hx1
          obtain ⟨Ao, co, eo⟩ := Kd.N_slice HN.out
          subst eo
          obtain ⟨x10, hx10⟩ : ∃ x, x = (ys.take i).map (keyL l0) := ⟨_, rfl⟩
          rw [← hx10] at HN HT HTL ⊢
          clear hx10
          go_wp2_with ((with_reducible refine gate_builtin (b := .append) (xs := #[.tmp 36, .tmp 41]) rfl ?_); at_builtin; refine Kd.N_append (Kd.slice 33 k33) (w0 := w) w.heap.size rfl (.tmp 36) (.tmp 41) 58 22 (.slice none 0 0) 24 rfl Try.underlying58 info22 rfl (by decide) (by omega) (.slice Ao x10.length co) x10 (keyL l0 y) [.slice Ay (keyL l0 y).length cy] (fun k_ => (P0_ k_ ∧ k_ < w.heap.size) ∨ g < k_) (fun k_ => P0_ k_ ∧ k_ < w.heap.size) rfl rfl ?aP ?aK ?aF ?aO ?aB ?aS ?aL ?_; (case aP => exact (Kd.FK_slice_mk (Kd.V_reads' HF.out).2.1 (Kd.V_F HF.out))); (case aK => exact (fun k hk => ⟨.inl hk, fun he => by have h1 := N_base HN.out k he.symm; have h2 := hk.2; omega⟩)); (case aB => exact HB.out); (case aF => exact (fun k hk => .inr (Nat.lt_of_lt_of_le HH.out.lt hk))); (case aO => exact HN.out); (case aS => exact below_size HB.out); (case aL => have := HTL.out; omega); intro v9 w9 ho hb hg hat; have HN9 := Aside0.mk ho; have HB9 := Aside0.mk hb; have HV9 := Aside0.mk (Kd.V_grown HV.out hg (fun k hk he => by have h1 := N_base HN.out k he.symm; have h2 := hk.2; omega)); have HH9 := Aside0.mk (show HoldI w9 g ys from (hg.block g HH.out.lt (fun he => by have h1 := HN.out.1 _ he.symm; have h2 := HGE.out; rcases h1 with h1 | h1 <;> omega)).trans HH.out); clear ho hb hg hat HN HB HV HF HH)
          go_roundg k1
          case measure => omega
          case rel => exact ⟨i + 1, by rw [HW.out], ⟨by have := HI.out; omega⟩, HH9, HV9, ⟨by rw [← HT.out]; exact HN9.out⟩, HB9⟩
        · have c3b : decide ((i : Int) < (l0.length : Int)) = false := decide_eq_false c3
          have hN := HN.out
          have hge := HGE.out
          rw [List.take_of_length_le (by have := HI.out; have := HYL.out; omega)] at hN
          have HN2 := Aside0.mk (Kd.N_mono (ok' := fun k_ => P0_ k_ ∨ w.heap.size ≤ k_) hN (fun k hk => hk.imp (fun h => h.1) (fun h => by omega)))
          obtain ⟨Ao, co, eo⟩ := Kd.N_slice HN2.out
          subst eo
          clear hN hge HN
          go_wp2
          go_ret
          exact ⟨_, rfl, by have h := HN2.out; rw [List.length_map] at h; exact h, HB.out⟩
end Go.Proofs.Ythghflgmeepnlaa.Pa
end
section
namespace Go.Proofs.Ythghflgmeepnlaa.Pa
open Go.RowKit Go.Proofs.YthghflgmeepnlaaW.PrintWords Go.Proofs.YthghflgmeepnlaaW.PrintLast Go.Proofs.YthghflgmeepnlaaW.PrintMore
set_option linter.unusedVariables false
set_option linter.unusedSimpArgs false
theorem below_grown_none {W W1 : World} (h : W.grownBy W1 none) : Below W.heap.size W W1 := ⟨h.os, h.tape, h.output, h.size, fun k hk => h.block k hk (by simp)⟩
theorem V_lit {α : Type} (d : Kd α) (e : Nat) {W : World} {xs : List α} {inner : List Value} (hrep : Reps (Kd.FK d W (fun _ => True)) d.sz xs inner) (hm : xs.length ≤ 9223372036854775807) :
    Kd.V d e (W.alloc (.cells inner.toArray e)) 0 (fun _ => True) (.slice (some ⟨W.heap.size, 0, none⟩) xs.length xs.length) xs := by
  have hR : (Kd.raw d.sz).R e (W.alloc (.cells inner.toArray e)) 0 (fun k => k = W.heap.size) (.slice (some ⟨W.heap.size, 0, none⟩) xs.length xs.length) (Kd.chunks d.sz xs.length inner) := by
    refine ⟨fun k hk => ?_, inner, ?_, ?_⟩
    · have : W.heap.size = k := by simpa [Value.ownBlock] using hk
      exact this.symm
    · have h2 := World.ownsRow_lit (base := 0) (e := e) (size := d.sz) W inner.toArray xs.length (Nat.zero_le _) (by simpa [maxLen] using hm) (by simpa using hrep.1)
      rw [Kd.chunks_length]
      have h3 : (W.alloc (Obj.cells inner.toArray e)).ownsRow 0 e d.sz (Value.slice (some { block := W.heap.size, off := 0 }) xs.length xs.length) xs.length inner := by simpa using h2
      exact h3
    · exact Kd.reps_raw hrep (fun y c hk => ⟨d.K_len (Kd.FK_now hk), d.K_one (Kd.FK_now hk)⟩)
  exact Kd.N_V (Kd.N_made hR (World.grownBy_alloc W _ none) ⟨W.heap.size, by simp [Value.ownBlock], Nat.le_refl _⟩ (Kd.chunks_length _ _ _) (fun j y c hy hc => by rw [Kd.chunks_get hc]; exact hrep.2 j y hy) (fun _ h => h) trivial)
def r1 : List S33 := [⟨2, 1, ⟨#[]⟩⟩]
def r2 : List S33 := [⟨2, 2, ⟨#[]⟩⟩]
def r0 : List S33 := [⟨0, 0, ⟨#[]⟩⟩]
theorem one1 : cordonlaw11_one.f 1 = some r1 := by rfl
theorem one2 : cordonlaw11_one.f 2 = some r2 := by rfl
theorem ex_dist : distinctL [r1, r2, r1] = [r1, r2] := by kernel_rfl
theorem ex_sort : insS (fun i j => ordD (keyL [r2, r1, r0] i) (keyL [r2, r1, r0] j) []) 0 3 (List.range 3) = [2, 1, 0] := by decide +kernel
theorem ex_group : (groupsL [r2, r1, r0]).length = 3 := by decide +kernel
theorem ex_same1 : cordonref11_Same.f 100 [r1, r2] [r1, r2] = some true := by decide +kernel
theorem ex_same2 : cordonref11_Same.f 100 [r0, r1, r2] [r0, r1, r2] = some true := by decide +kernel
theorem sort_small (n : Nat) (hn : n < 20) (cf : Nat → Nat → Int) (fk : Nat) (caps : Array Value) (g : Nat) (W : World) (hc : CmpOk fk caps cf n g W) (hh : HoldI W g (List.range n)) :
    Calls Try.prog 94 #[.slice (some ⟨g, 0, none⟩) n n, .func (.func fk) #[] caps] W fun e w' => e = .returned (.tuple #[]) ∧ W.grownBy w' (some g) ∧ HoldI w' g (insS cf 0 n (List.range n)) := by
  have h := sortfunc_small hc n (List.range n) hh (by simpa using hn) (fun x hx => List.mem_range.1 hx)
  rw [List.length_range] at h
  exact h
set_option maxHeartbeats 8000000 in
set_option maxRecDepth 1000000 in
theorem alive_calls (w : World) : Calls Try.prog 55 #[] w fun e w' => e = .returned (.bool true) ∧ Below w.heap.size w w' := by
  have HB := Aside0.mk (Below.refl w.heap.size w)
  have hu33 := Try.underlying33
  go_enter Try.func55, Try.ntmps55
  go_wp2_with fail
  refine (cordonlaw11_one.calls 2 r2 _ one2).mono ?_
  rintro e wa ⟨va, rfl, ho, hb⟩
  replace HB := Aside0.mk (below_step HB.out hb)
  clear hb
  have a := Aside0.mk (Kd.R_V (base' := 0) ho)
  clear ho
  obtain ⟨Aa, ca, ea, _, _⟩ := a.out
  subst ea
  go_wp2_with fail
  refine (cordonlaw11_one.calls 1 r1 _ one1).mono ?_
  rintro e wb ⟨vb, rfl, ho, hb⟩
  replace a := Aside0.mk (Kd.V_below a.out hb)
  replace HB := Aside0.mk (below_step HB.out hb)
  clear hb
  have b := Aside0.mk (Kd.R_V (base' := 0) ho)
  clear ho
  obtain ⟨Ab, cb, eb, _, _⟩ := b.out
  subst eb
  go_wp2_with (first
    | ((with_reducible refine gate_dst (N := 5) rfl ?_); refine Kd.N_lit k33 0 33 ?hg (N' := 5) ?hd (xs := r0) (inner := [.int .i64 0, .int .i64 0, .string ⟨#[]⟩]) (ok := fun _ => True) (okp := fun _ => True) ?hr ?hp (fun _ h => h) trivial (Below.refl _ _) (Nat.zero_le _) (by simp [r0]) ?_; (case hd => rfl); (case hg => rfl); (case hr => first | (go_simp; done) | (go_simp; rfl)); (case hp => exact Reps.c3 (Kd.FK_of_M (base := 0) (k33_mkM _ _ _ (⟨0, 0, ⟨#[]⟩⟩ : S33))) (Reps.none _ _)); intro vz wz ho hb_ hg_ hnew_; have hb : Below _ _ wz := below_grown_none hg_; replace a := Aside0.mk (Kd.V_below a.out hb); replace b := Aside0.mk (Kd.V_below b.out hb); replace HB := Aside0.mk (below_step HB.out hb); have z := Aside0.mk (Kd.N_V (base' := 0) ho); (obtain ⟨Az, cz, ez, _, _⟩ := z.out); subst ez; clear ho hb hb_ hg_ hnew_)
    | ((with_reducible refine gate_dst (N := 6) rfl ?_); refine Kd.N_lit (Kd.slice 33 k33) 0 22 ?hg (N' := 6) ?hd (xs := ([r2, r1, r0] : List (List S33))) (inner := [.slice Aa r2.length ca, .slice Ab r1.length cb, .slice Az r0.length cz]) (ok := fun _ => True) (okp := fun _ => True) ?hr ?hp (fun _ h => h) trivial (Below.refl _ _) (Nat.zero_le _) (by simp) ?_; (case hd => rfl); (case hg => rfl); (case hr => first | (go_simp; done) | (go_simp; rfl)); (case hp => exact (Reps.one (show Kd.FK (Kd.slice 33 k33) _ (fun _ => True) r2 [.slice Aa r2.length ca] from Kd.FK_slice_mk (Kd.V_reads' a.out).2.1 (Kd.V_F a.out)) (Reps.one (show Kd.FK (Kd.slice 33 k33) _ (fun _ => True) r1 [.slice Ab r1.length cb] from Kd.FK_slice_mk (Kd.V_reads' b.out).2.1 (Kd.V_F b.out)) (Reps.one (show Kd.FK (Kd.slice 33 k33) _ (fun _ => True) r0 [.slice Az r0.length cz] from Kd.FK_slice_mk (Kd.V_reads' z.out).2.1 (Kd.V_F z.out)) (Reps.none _ _))))); intro vL wL ho hb_ hg_ hnew_; have hb : Below _ _ wL := below_grown_none hg_; replace a := Aside0.mk (Kd.V_below a.out hb); replace b := Aside0.mk (Kd.V_below b.out hb); replace z := Aside0.mk (Kd.V_below z.out hb); replace HB := Aside0.mk (below_step HB.out hb); have L := Aside0.mk (Kd.N_V (base' := 0) ho); (obtain ⟨AL, cL, eL, _, _⟩ := L.out); subst eL; clear ho hb hb_ hg_ hnew_))
  clear a b z
  refine (cordonlaw11_one.calls 1 r1 _ one1).mono ?_
  rintro e wa ⟨va, rfl, ho, hb⟩
  replace L := Aside0.mk (Kd.V_below L.out hb)
  replace HB := Aside0.mk (below_step HB.out hb)
  clear hb
  have a := Aside0.mk (Kd.R_V (base' := 0) ho)
  clear ho
  obtain ⟨Aa, ca, ea, _, _⟩ := a.out
  subst ea
  go_wp2_with fail
  refine (cordonlaw11_one.calls 2 r2 _ one2).mono ?_
  rintro e wb ⟨vb, rfl, ho, hb⟩
  replace L := Aside0.mk (Kd.V_below L.out hb)
  replace a := Aside0.mk (Kd.V_below a.out hb)
  replace HB := Aside0.mk (below_step HB.out hb)
  clear hb
  have b := Aside0.mk (Kd.R_V (base' := 0) ho)
  clear ho
  obtain ⟨Ab, cb, eb, _, _⟩ := b.out
  subst eb
  go_wp2_with fail
  refine (cordonlaw11_one.calls 1 r1 _ one1).mono ?_
  rintro e wd ⟨vd, rfl, ho, hb⟩
  replace L := Aside0.mk (Kd.V_below L.out hb)
  replace a := Aside0.mk (Kd.V_below a.out hb)
  replace b := Aside0.mk (Kd.V_below b.out hb)
  replace HB := Aside0.mk (below_step HB.out hb)
  clear hb
  have d := Aside0.mk (Kd.R_V (base' := 0) ho)
  clear ho
  obtain ⟨Ad, cd, ed, _, _⟩ := d.out
  subst ed
  go_wp2_with (first
    | ((with_reducible refine gate_dst (N := 10) rfl ?_); refine Kd.N_lit (Kd.slice 33 k33) 0 22 ?hg (N' := 10) ?hd (xs := ([r1, r2, r1] : List (List S33))) (inner := [.slice Aa r1.length ca, .slice Ab r2.length cb, .slice Ad r1.length cd]) (ok := fun _ => True) (okp := fun _ => True) ?hr ?hp (fun _ h => h) trivial (Below.refl _ _) (Nat.zero_le _) (by simp) ?_; (case hd => rfl); (case hg => rfl); (case hr => first | (go_simp; done) | (go_simp; rfl)); (case hp => exact (Reps.one (show Kd.FK (Kd.slice 33 k33) _ (fun _ => True) r1 [.slice Aa r1.length ca] from Kd.FK_slice_mk (Kd.V_reads' a.out).2.1 (Kd.V_F a.out)) (Reps.one (show Kd.FK (Kd.slice 33 k33) _ (fun _ => True) r2 [.slice Ab r2.length cb] from Kd.FK_slice_mk (Kd.V_reads' b.out).2.1 (Kd.V_F b.out)) (Reps.one (show Kd.FK (Kd.slice 33 k33) _ (fun _ => True) r1 [.slice Ad r1.length cd] from Kd.FK_slice_mk (Kd.V_reads' d.out).2.1 (Kd.V_F d.out)) (Reps.none _ _))))); intro vP wP ho hb_ hg_ hnew_; have hb : Below _ _ wP := below_grown_none hg_; replace L := Aside0.mk (Kd.V_below L.out hb); replace a := Aside0.mk (Kd.V_below a.out hb); replace b := Aside0.mk (Kd.V_below b.out hb); replace d := Aside0.mk (Kd.V_below d.out hb); replace HB := Aside0.mk (below_step HB.out hb); have P := Aside0.mk (Kd.N_V (base' := 0) ho); (obtain ⟨AP, cP, eP, _, _⟩ := P.out); subst eP; clear ho hb hb_ hg_ hnew_))
  clear a b d
  refine (rows_Distinct_calls (fun _ => True) AP cP [r1, r2, r1] wP P.out (by simp) (by simp [r1, r2]) (fun r hr => by simp only [List.mem_cons, List.not_mem_nil, or_false] at hr; rcases hr with rfl | rfl | rfl <;> exact (by decide +kernel))).mono ?_
  rintro e wD ⟨vD, rfl, ho, hb⟩
  rw [ex_dist] at ho
  clear P
  replace L := Aside0.mk (Kd.V_below L.out hb)
  replace HB := Aside0.mk (below_step HB.out hb)
  clear hb
  have D := Aside0.mk (Kd.V_mono (ok' := fun _ => True) (Kd.N_V (base' := 0) ho) (fun _ _ => trivial))
  clear ho
  obtain ⟨AD, cD, eD, _, _⟩ := D.out
  subst eD
  go_wp2_with fail
  refine (cordonlaw11_one.calls 1 r1 _ one1).mono ?_
  rintro e wa ⟨va, rfl, ho, hb⟩
  replace L := Aside0.mk (Kd.V_below L.out hb)
  replace D := Aside0.mk (Kd.V_below D.out hb)
  replace HB := Aside0.mk (below_step HB.out hb)
  clear hb
  have a := Aside0.mk (Kd.R_V (base' := 0) ho)
  clear ho
  obtain ⟨Aa, ca, ea, _, _⟩ := a.out
  subst ea
  go_wp2_with fail
  refine (cordonlaw11_one.calls 2 r2 _ one2).mono ?_
  rintro e wb ⟨vb, rfl, ho, hb⟩
  replace L := Aside0.mk (Kd.V_below L.out hb)
  replace D := Aside0.mk (Kd.V_below D.out hb)
  replace a := Aside0.mk (Kd.V_below a.out hb)
  replace HB := Aside0.mk (below_step HB.out hb)
  clear hb
  have b := Aside0.mk (Kd.R_V (base' := 0) ho)
  clear ho
  obtain ⟨Ab, cb, eb, _, _⟩ := b.out
  subst eb
  go_wp2_with fail
  have Q := Aside0.mk (V_lit (Kd.slice 33 k33) 22 (W := wb) (xs := [r1, r2]) (inner := [.slice Aa r1.length ca, .slice Ab r2.length cb]) (Reps.one (show Kd.FK (Kd.slice 33 k33) _ (fun _ => True) r1 [.slice Aa r1.length ca] from Kd.FK_slice_mk (Kd.V_reads' a.out).2.1 (Kd.V_F a.out)) (Reps.one (show Kd.FK (Kd.slice 33 k33) _ (fun _ => True) r2 [.slice Ab r2.length cb] from Kd.FK_slice_mk (Kd.V_reads' b.out).2.1 (Kd.V_F b.out)) (Reps.none _ _))) (by simp))
  have D2 := Aside0.mk (Kd.V_alloc D.out (.cells [.slice Aa r1.length ca, .slice Ab r2.length cb].toArray 22))
  refine (cordonref11_Same.calls 100 AD cD [r1, r2] _ _ [r1, r2] true _ (Kd.V_reads' D2.out).2.2 (Kd.V_reads' D2.out).2.1 (Kd.V_reads' Q.out).2.2 (Kd.V_reads' Q.out).2.1 ex_same1).mono ?_
  rintro e w7 ⟨rfl, nd, rfl⟩
  have hb := pw_below_drewN (below_alloc (Below.refl wb.heap.size wb) (.cells [.slice Aa r1.length ca, .slice Ab r2.length cb].toArray 22)) nd
  clear Q D2
  clear D a b
  replace L := Aside0.mk (Kd.V_below L.out hb)
  replace HB := Aside0.mk (below_step HB.out hb)
  clear hb
  generalize ((wb.alloc (.cells [.slice Aa r1.length ca, .slice Ab r2.length cb].toArray 22)).drewN nd) = W1 at L HB ⊢
  go_wp2_with fail
  refine (Sort_calls (fun _ => True) (fun _ => True) (fun _ => True) AL cL [r2, r1, r0] AL cL [r2, r1, r0] none 0 [] W1 L.out L.out (Kd.V_nil _ _ _ _ _) (by simp) (by simp [r0, r1, r2]) (by simp) [2, 1, 0] rfl (by simp) (fun fk caps g W hc hh => by have h := sort_small 3 (by omega) _ fk caps g W hc hh; rw [ex_sort] at h; exact h)).mono ?_
  rintro e wS ⟨vS, rfl, ho, hb⟩
  replace ho : Kd.N (Kd.slice 33 k33) 22 wS W1.heap.size (fun k_ => True ∨ W1.heap.size ≤ k_) vS [r0, r1, r2] := ho
  replace L := Aside0.mk (Kd.V_below L.out hb)
  replace HB := Aside0.mk (below_step HB.out hb)
  clear hb
  have D := Aside0.mk (Kd.V_mono (ok' := fun _ => True) (Kd.N_V (base' := 0) ho) (fun _ _ => trivial))
  clear ho
  obtain ⟨AD, cD, eD, _, _⟩ := D.out
  subst eD
  go_wp2_with fail
  have z := Aside0.mk (V_lit k33 33 (W := wS) (xs := r0) (inner := [.int .i64 0, .int .i64 0, .string ⟨#[]⟩]) (Reps.c3 (Kd.FK_of_M (base := 0) (k33_mkM _ _ _ (⟨0, 0, ⟨#[]⟩⟩ : S33))) (Reps.none _ _)) (by simp [r0]))
  have hb := below_alloc (Below.refl wS.heap.size wS) (.cells #[Value.int .i64 0, Value.int .i64 0, Value.string { data := #[] }] 33)
  replace L := Aside0.mk (Kd.V_below L.out hb)
  replace D := Aside0.mk (Kd.V_below D.out hb)
  replace HB := Aside0.mk (below_step HB.out hb)
  clear hb
  generalize hgz : wS.heap.size = gz at z ⊢
  change Aside0 (Kd.V k33 33 (wS.alloc (Obj.cells #[Value.int IntKind.i64 0, Value.int IntKind.i64 0, Value.string { data := #[] }] 33)) 0 (fun _ => True) (.slice (some ⟨gz, 0, none⟩) r0.length r0.length) r0) at z
  generalize (wS.alloc (Obj.cells #[Value.int IntKind.i64 0, Value.int IntKind.i64 0, Value.string { data := #[] }] 33)) = W2 at z D L HB ⊢
  clear hgz
  obtain ⟨Az, hAz⟩ : ∃ A : Option Addr, A = some ⟨gz, 0, none⟩ := ⟨_, rfl⟩
  obtain ⟨cz, hcz⟩ : ∃ c : Nat, c = r0.length := ⟨_, rfl⟩
  rw [← hAz] at z
  replace z : Aside0 (Kd.V k33 33 W2 0 (fun _ => True) (.slice Az r0.length cz) r0) := by rw [hcz]; exact z
  refine (cordonlaw11_one.calls 1 r1 _ one1).mono ?_
  rintro e wa ⟨va, rfl, ho, hb⟩
  replace L := Aside0.mk (Kd.V_below L.out hb)
  replace D := Aside0.mk (Kd.V_below D.out hb)
  replace z := Aside0.mk (Kd.V_below z.out hb)
  replace HB := Aside0.mk (below_step HB.out hb)
  clear hb
  have a := Aside0.mk (Kd.R_V (base' := 0) ho)
  clear ho
  obtain ⟨Aa, ca, ea, _, _⟩ := a.out
  subst ea
  go_wp2_with fail
  refine (cordonlaw11_one.calls 2 r2 _ one2).mono ?_
  rintro e wb ⟨vb, rfl, ho, hb⟩
  replace L := Aside0.mk (Kd.V_below L.out hb)
  replace D := Aside0.mk (Kd.V_below D.out hb)
  replace z := Aside0.mk (Kd.V_below z.out hb)
  replace a := Aside0.mk (Kd.V_below a.out hb)
  replace HB := Aside0.mk (below_step HB.out hb)
  clear hb
  have b := Aside0.mk (Kd.R_V (base' := 0) ho)
  clear ho
  obtain ⟨Ab, cb, eb, _, _⟩ := b.out
  subst eb
  subst hAz
  subst hcz
  go_wp2_with fail
  have Q := Aside0.mk (V_lit (Kd.slice 33 k33) 22 (W := wb) (xs := [r0, r1, r2]) (inner := [.slice (some ⟨gz, 0, none⟩) r0.length r0.length, .slice Aa r1.length ca, .slice Ab r2.length cb]) (Reps.one (show Kd.FK (Kd.slice 33 k33) _ (fun _ => True) r0 [.slice (some ⟨gz, 0, none⟩) r0.length r0.length] from Kd.FK_slice_mk (Kd.V_reads' z.out).2.1 (Kd.V_F z.out)) (Reps.one (show Kd.FK (Kd.slice 33 k33) _ (fun _ => True) r1 [.slice Aa r1.length ca] from Kd.FK_slice_mk (Kd.V_reads' a.out).2.1 (Kd.V_F a.out)) (Reps.one (show Kd.FK (Kd.slice 33 k33) _ (fun _ => True) r2 [.slice Ab r2.length cb] from Kd.FK_slice_mk (Kd.V_reads' b.out).2.1 (Kd.V_F b.out)) (Reps.none _ _)))) (by simp))
  have D2 := Aside0.mk (Kd.V_alloc D.out (.cells [.slice (some ⟨gz, 0, none⟩) r0.length r0.length, .slice Aa r1.length ca, .slice Ab r2.length cb].toArray 22))
  refine (cordonref11_Same.calls 100 AD cD [r0, r1, r2] _ _ [r0, r1, r2] true _ (Kd.V_reads' D2.out).2.2 (Kd.V_reads' D2.out).2.1 (Kd.V_reads' Q.out).2.2 (Kd.V_reads' Q.out).2.1 ex_same2).mono ?_
  rintro e w7 ⟨rfl, nd, rfl⟩
  have hb := pw_below_drewN (below_alloc (Below.refl wb.heap.size wb) (.cells [.slice (some ⟨gz, 0, none⟩) r0.length r0.length, .slice Aa r1.length ca, .slice Ab r2.length cb].toArray 22)) nd
  clear Q D2
  clear D a b z
  replace L := Aside0.mk (Kd.V_below L.out hb)
  replace HB := Aside0.mk (below_step HB.out hb)
  clear hb
  generalize ((wb.alloc (.cells [.slice (some ⟨gz, 0, none⟩) r0.length r0.length, .slice Aa r1.length ca, .slice Ab r2.length cb].toArray 22)).drewN nd) = W3 at L HB ⊢
  go_wp2_with fail
  refine (Groups_calls (fun _ => True) AL cL [r2, r1, r0] W3 L.out (by simp) (by simp [r0, r1, r2]) (fun r hr => by simp only [List.mem_cons, List.not_mem_nil, or_false] at hr; rcases hr with rfl | rfl | rfl <;> exact (by decide +kernel))).mono ?_
  rintro e wG ⟨vG, rfl, ho, hb⟩
  replace HB := Aside0.mk (below_step HB.out hb)
  obtain ⟨AG, cG, eG⟩ := Kd.S_slice ho
  rw [ex_group] at eG
  subst eG
  clear hb ho L
  go_wp2
  go_ret
  exact ⟨rfl, HB.out⟩
end Go.Proofs.Ythghflgmeepnlaa.Pa
end
section
namespace Go.Proofs.Ythghflgmeepnlaa.Pa
open Go.RowKit Go.Proofs.YthghflgmeepnlaaW.PrintWords Go.Proofs.YthghflgmeepnlaaW.PrintLast Go.Proofs.YthghflgmeepnlaaW.PrintMore
open Go.Maps
set_option linter.unusedVariables false
set_option linter.unusedSimpArgs false
end Go.Proofs.Ythghflgmeepnlaa.Pa
end
section
namespace Go.Proofs.Ythghflgmeepnlaa.Pa
open Go.RowKit Go.Proofs.YthghflgmeepnlaaW.PrintWords Go.Proofs.YthghflgmeepnlaaW.PrintLast Go.Proofs.YthghflgmeepnlaaW.PrintMore
set_option linter.unusedVariables false
set_option linter.unusedSimpArgs false
end Go.Proofs.Ythghflgmeepnlaa.Pa
end
section
namespace Go.Proofs.Ythghflgmeepnlaa.Pa
open Go.RowKit Go.Proofs.YthghflgmeepnlaaW.PrintWords Go.Proofs.YthghflgmeepnlaaW.PrintLast Go.Proofs.YthghflgmeepnlaaW.PrintMore
set_option linter.unusedVariables false
set_option linter.unusedSimpArgs false
theorem C_V {w : World} {A : Option Addr} {c : Nat} {l : List (List S33)} (h : Kd.C (Kd.slice 33 k33) w A l.length l) (hc : l.length ≤ c) : Kd.V (Kd.slice 33 k33) 22 w 0 (fun _ => True) (.slice A l.length c) l :=
  Kd.V_mono (Kd.V_mk hc (Kd.C_F (Kd.heap_slice 33 k33_heap) h)) (fun _ _ => trivial)
structure Fine (l : List (List S33)) : Prop where
  len : l.length < 1000000000
  good : ∀ r ∈ l, gR r
/-- R.Same at a list and itself. -/
theorem Same_calls {l : List (List S33)} (h : Fine l) {W : World} {b1 b2 : Nat} {ok1 ok2 : Nat → Prop} {A1 A2 : Option Addr} {c1 c2 : Nat} (h1 : Kd.V (Kd.slice 33 k33) 22 W b1 ok1 (.slice A1 l.length c1) l) (h2 : Kd.V (Kd.slice 33 k33) 22 W b2 ok2 (.slice A2 l.length c2) l) :
    Calls Try.prog 56 #[.slice A1 l.length c1, .slice A2 l.length c2] W fun e w' => e = .returned (.bool true) ∧ Below W.heap.size W w' :=
  (cordonref11_Same.calls (0 + l.length + 62) A1 c1 l A2 c2 l true W (Kd.V_reads' h1).2.2 (Kd.V_reads' h1).2.1 (Kd.V_reads' h2).2.2 (Kd.V_reads' h2).2.1 (rsame_is l h.good h.len 0)).mono fun e w' ⟨he, nd, hw⟩ => ⟨he, by rw [hw]; exact pw_below_drewN (Below.refl _ _) nd⟩
/-- Few's contract at what is read. -/
theorem Few_calls {ls : List (List (List S33))} {r : Bool} {k : Nat} (h : cordonlaw11_Few.f k ls = some r) {W : World} {b : Nat} {ok : Nat → Prop} {A : Option Addr} {c : Nat} (h1 : Kd.V (Kd.slice 22 (Kd.slice 33 k33)) 58 W b ok (.slice A ls.length c) ls) :
    Calls Try.prog 54 #[.slice A ls.length c] W fun e w' => e = .returned (.bool r) ∧ Below W.heap.size W w' :=
  cordonlaw11_Few.calls k A c ls r W (Kd.V_reads' h1).2.2 (Kd.V_reads' h1).2.1 h
end Go.Proofs.Ythghflgmeepnlaa.Pa
namespace Go.Proofs.Ythghflgmeepnlaa.Pure
open Go.RowKit Go.Proofs.Ythghflgmeepnlaa.Pa
theorem RowsSets (l0 : List (List S33)) (h0 : l0.length ≤ maxLen) (g0 : ∀ x ∈ l0, x.length ≤ maxLen ∧ ∀ y ∈ x, okv y) (l1 : List (List S33)) (h1 : l1.length ≤ maxLen) (g1 : ∀ x ∈ l1, x.length ≤ maxLen ∧ ∀ y ∈ x, okv y) :
    ∃ k r, cordonlaw11_Few.f k [l0, l1] = some r ∧ (r = true → ∀ l ∈ [l0, l1], gL l) := by
  have hm : maxLen = 9223372036854775807 := rfl
  refine few11 [l0, l1] (by simp) (fun l hl => ?_)
  simp only [List.mem_cons, List.not_mem_nil, or_false] at hl
  rcases hl with rfl | rfl
  · exact ⟨by omega, fun r hr => ⟨by have := (g0 r hr).1; omega, (g0 r hr).2⟩⟩
  · exact ⟨by omega, fun r hr => ⟨by have := (g1 r hr).1; omega, (g1 r hr).2⟩⟩
end Go.Proofs.Ythghflgmeepnlaa.Pure
end
section
namespace Go.Proofs.Ythghflgmeepnlaa.Pa
open Go.RowKit Go.Proofs.YthghflgmeepnlaaW.PrintWords Go.Proofs.YthghflgmeepnlaaW.PrintLast Go.Proofs.YthghflgmeepnlaaW.PrintMore
set_option linter.unusedVariables false
set_option linter.unusedSimpArgs false
theorem C_Vb {w : World} {A : Option Addr} {c : Nat} {l : List Bool} (h : Kd.C Kd.bool w A l.length l) (hc : l.length ≤ c) : Kd.V Kd.bool 4 w 0 (fun _ => True) (.slice A l.length c) l :=
  Kd.V_mono (Kd.V_mk hc (Kd.C_F Kd.heap_bool h)) (fun _ _ => trivial)
/-- The sort makes the one list of places that is sorted. -/
theorem hsort_ok {l keys : List (List S33)} {desc : List Bool} {Z : List Nat} (hn : l.length ≤ 40) (hp : Z.Perm (List.range l.length)) (hs : Z.Pairwise (ltP (fun a b => ordD (keyL keys a) (keyL keys b) desc))) (fk : Nat) (caps : Array Value) (g : Nat) (W : World)
    (hc : CmpOk fk caps (fun i j => ordD (keyL keys i) (keyL keys j) desc) l.length g W) (hh : HoldI W g (List.range l.length)) :
    Calls Try.prog 94 #[.slice (some ⟨g, 0, none⟩) l.length l.length, .func (.func fk) #[] caps] W fun e w' => e = .returned (.tuple #[]) ∧ W.grownBy w' (some g) ∧ HoldI w' g Z := by
  refine (sortfunc_all (ordP_keys keys desc) hc l.length hh hn).mono ?_
  rintro e w' ⟨he, hg, Z', p', s', h⟩
  have e1 := sorted_one (ordP_keys keys desc) Z' Z s' hs (p'.trans hp.symm)
  rw [e1] at h
  exact ⟨he, hg, h⟩
theorem keys_fine {l Q : List (List S33)} (h : gL l) (Z : List Nat) (hQ : Q = Z.map (keyL l)) (hp : Z.Perm (List.range l.length)) : Fine Q := by
  subst hQ
  exact ⟨by have := hp.length_eq; have := h.1; simp at *; omega, fun r hr => by obtain ⟨z, _, rfl⟩ := List.mem_map.1 hr; exact keyL_gR h.2 z⟩
/-- rows.Sort's contract, of rows that are gone through. -/
theorem Sort_gone {l0 keys Q : List (List S33)} {desc : List Bool} (g0 : gL l0) (g1 : gL keys) (hd : desc.length ≤ maxLen) {Z : List Nat} (hQ : Q = Z.map (keyL l0)) (hp : Z.Perm (List.range l0.length)) (hs : Z.Pairwise (ltP (fun a b => ordD (keyL keys a) (keyL keys b) desc)))
    {A0 A1 A2 : Option Addr} {c0 c1 c2 : Nat} {W : World} {b0 b1 b2 : Nat} (h0 : Kd.V (Kd.slice 33 k33) 22 W b0 (fun _ => True) (.slice A0 l0.length c0) l0) (h1 : Kd.V (Kd.slice 33 k33) 22 W b1 (fun _ => True) (.slice A1 keys.length c1) keys) (h2 : Kd.V Kd.bool 4 W b2 (fun _ => True) (.slice A2 desc.length c2) desc) :
    Calls Try.prog 57 #[.slice A0 l0.length c0, .slice A1 keys.length c1, .slice A2 desc.length c2] W fun e w' => ∃ v0_ : Value, e = .returned (v0_) ∧ Kd.V (Kd.slice 33 k33) 22 w' 0 (fun _ => True) v0_ Q ∧ Below W.heap.size W w' := by
  subst hQ
  refine (Sort_calls (fun _ => True) (fun _ => True) (fun _ => True) A0 c0 l0 A1 c1 keys A2 c2 desc W (Kd.V_mono (Kd.V_bound h0) (fun _ _ => trivial)) (Kd.V_mono (Kd.V_bound h1) (fun _ _ => trivial)) (Kd.V_mono (Kd.V_bound h2) (fun _ _ => trivial)) (by have := g0.1; omega) (fun r hr => by have := (g1.2 r hr).1; omega) hd Z
    (by have := hp.length_eq; simpa using this) (fun y hy => by simpa using hp.mem_iff.1 hy) (fun fk caps g W1 hc hh => hsort_ok g0.1 hp hs fk caps g W1 hc hh)).mono ?_
  rintro e w' ⟨v, he, hv, hb⟩
  exact ⟨v, he, Kd.V_mono (Kd.N_V (base' := 0) hv) (fun _ _ => trivial), hb⟩
set_option maxHeartbeats 16000000 in
set_option maxRecDepth 1000000 in
theorem RowsSorts.calls (A0 : Option Addr) (c0 : Nat) (l0 : List (List S33)) (A1 : Option Addr) (c1 : Nat) (l1 : List (List S33)) (A2 : Option Addr) (c2 : Nat) (l2 : List Bool) (w : World) (hr0 : Kd.C (Kd.slice 33 k33) w A0 l0.length l0) (hc0 : l0.length ≤ c0) (hr1 : Kd.C (Kd.slice 33 k33) w A1 l1.length l1) (hc1 : l1.length ≤ c1) (hr2 : Kd.C Kd.bool w A2 l2.length l2) (hc2 : l2.length ≤ c2)
    (hp : l2.length ≤ maxLen ∧ ∃ k r, cordonlaw11_Few.f k [l0, l1] = some r ∧ (r = true → ∀ l ∈ [l0, l1], gL l)) :
    Calls Try.prog 13 #[.slice A0 l0.length c0, .slice A1 l1.length c1, .slice A2 l2.length c2] w fun e w' => e = .returned (.bool true) ∧ Below w.heap.size w w' := by
  obtain ⟨hd, k, r, hk, hg⟩ := hp
  have A := Aside0.mk (C_V hr0 hc0)
  have B := Aside0.mk (C_V hr1 hc1)
  have D := Aside0.mk (C_Vb hr2 hc2)
  have HD := Aside0.mk hd
  have HB := Aside0.mk (Below.refl w.heap.size w)
  have HG := Aside0.mk hg
  have HF := Aside0.mk (Few_calls hk (V_lit (Kd.slice 22 (Kd.slice 33 k33)) 58 (W := w) (xs := [l0, l1]) (inner := [.slice A0 l0.length c0, .slice A1 l1.length c1]) (Reps.one (Kd.FK_slice_mk (Kd.V_reads' A.out).2.1 (Kd.V_F A.out)) (Reps.one (Kd.FK_slice_mk (Kd.V_reads' B.out).2.1 (Kd.V_F B.out)) (Reps.none _ _))) (by simp)))
  clear hr0 hc0 hr1 hc1 hr2 hc2 hk hg hd
  go_enter Try.func13, Try.ntmps13
  go_wp2_with fail
  refine HF.out.mono ?_
  rintro e w0 ⟨rfl, hb0⟩
  have hb : Below w.heap.size w w0 := below_step (below_alloc (Below.refl w.heap.size w) _) hb0
  clear hb0 HF
  replace A := Aside0.mk (Kd.V_below A.out hb)
  replace B := Aside0.mk (Kd.V_below B.out hb)
  replace D := Aside0.mk (Kd.V_below D.out hb)
  replace HB := Aside0.mk (below_step HB.out hb)
  clear hb
  cases r with
  | false =>
    go_wp2_with fail
    refine (alive_calls _).mono ?_
    rintro e w1 ⟨rfl, hb⟩
    replace HB := Aside0.mk (below_step HB.out hb)
    clear hb
    go_wp2
    go_ret
    exact ⟨rfl, HB.out⟩
  | true =>
    have G0 := Aside0.mk (HG.out rfl l0 (by simp))
    have G1 := Aside0.mk (HG.out rfl l1 (by simp))
    obtain ⟨K, Z, zp, zs, ze⟩ := rsort_is l0 l1 l2 G1.out.2 HD.out G0.out.1
    obtain ⟨Q, hQ⟩ : ∃ Q, Q = Z.map (keyL l0) := ⟨_, rfl⟩
    rw [← hQ] at ze
    have HQ := Aside0.mk hQ
    have HZ := Aside0.mk (⟨zp, zs⟩ : Z.Perm (List.range l0.length) ∧ Z.Pairwise (ltP (fun a b => ordD (keyL l1 a) (keyL l1 b) l2)))
    have HE := Aside0.mk ze
    clear HG zp zs ze hQ
    go_wp2_with fail
    refine (Sort_gone G0.out G1.out HD.out HQ.out HZ.out.1 HZ.out.2 A.out B.out D.out).mono ?_
    rintro e wD ⟨vD, rfl, ho, hb⟩
    replace A := Aside0.mk (Kd.V_below A.out hb)
    replace B := Aside0.mk (Kd.V_below B.out hb)
    replace D := Aside0.mk (Kd.V_below D.out hb)
    replace HB := Aside0.mk (below_step HB.out hb)
    clear hb
    have S := Aside0.mk ho
    clear ho
    obtain ⟨AS, cS, eS, _, _⟩ := S.out
    subst eS
    go_wp2_with fail
    refine (cordonref11_Sort.calls K (fun _ => True) A0 c0 l0 (fun _ => True) A1 c1 l1 A2 c2 l2 _ _ (Kd.V_mono (Kd.V_bound A.out) (fun _ _ => trivial)) (Kd.V_mono (Kd.V_bound B.out) (fun _ _ => trivial)) (Kd.V_reads' D.out).2.2 (Kd.V_reads' D.out).2.1 HE.out).mono ?_
    rintro e wE ⟨vE, rfl, ho, hb⟩
    replace S := Aside0.mk (Kd.V_below S.out hb)
    replace HB := Aside0.mk (below_step HB.out hb)
    clear hb
    have E := Aside0.mk (Kd.V_mono (ok' := fun _ => True) (Kd.N_V (base' := 0) ho) (fun _ _ => trivial))
    clear ho
    obtain ⟨AE, cE, eE, _, _⟩ := E.out
    subst eE
    clear A B D
    go_wp2_with fail
    refine (Same_calls (keys_fine G0.out Z HQ.out HZ.out.1) S.out E.out).mono ?_
    rintro e ws1 ⟨rfl, hb⟩
    clear S E
    replace HB := Aside0.mk (below_step HB.out hb)
    clear hb
    go_wp2_with fail
    refine (alive_calls _).mono ?_
    rintro e w9 ⟨rfl, hb⟩
    replace HB := Aside0.mk (below_step HB.out hb)
    clear hb
    go_wp2
    go_ret
    exact ⟨rfl, HB.out⟩
end Go.Proofs.Ythghflgmeepnlaa.Pa
namespace Go.Proofs.Ythghflgmeepnlaa.Pure
open Go.RowKit Go.Proofs.Ythghflgmeepnlaa.Pa
theorem RowsSorts (l0 : List (List S33)) (h0 : l0.length ≤ maxLen) (g0 : ∀ x ∈ l0, x.length ≤ maxLen ∧ ∀ y ∈ x, okv y) (l1 : List (List S33)) (h1 : l1.length ≤ maxLen) (g1 : ∀ x ∈ l1, x.length ≤ maxLen ∧ ∀ y ∈ x, okv y) (l2 : List Bool) (h2 : l2.length ≤ maxLen) (_ : ∀ x ∈ l2, True) :
    l2.length ≤ maxLen ∧ ∃ k r, cordonlaw11_Few.f k [l0, l1] = some r ∧ (r = true → ∀ l ∈ [l0, l1], gL l) :=
  ⟨h2, RowsSets l0 h0 g0 l1 h1 g1⟩
end Go.Proofs.Ythghflgmeepnlaa.Pure
end
