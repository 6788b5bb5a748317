/- What RowsJoins hangs on, part 4 of 4: our texts put together by trim.py, without what the proof does not need. -/
import Derived.Test.YthghflgmeepnlaaZJ1
import Derived.Test.YthghflgmeepnlaaZJ2
import Derived.Test.YthghflgmeepnlaaZJ3
import Derived.ChangeKeysEq
section
namespace Go.Proofs.Ythghflgmeepnlaa.Pa
open Go.RowKit Go.Proofs.YthghflgmeepnlaaW.PrintWords Go.Proofs.YthghflgmeepnlaaW.PrintLast Go.Proofs.YthghflgmeepnlaaW.PrintMore
attribute [local go_sem] max2_int max_two
set_option linter.unusedVariables false
set_option linter.unusedSimpArgs false
mutual
def cordonref11_Groups.l0 : Nat → List (List (S33)) → List (List Int) → List (List (S33)) → Int → Option ((List (List Int)))
  | 0, _, _, _, _ => none
  | k + 1, x0, x3, x4, x5 => if x5 < (x4.length : Int) then (cordonref11_Groups.l1 k x0 x3 x4 x5 ([] : List Int) 0) else (some x3)
def cordonref11_Groups.l1 : Nat → List (List (S33)) → List (List Int) → List (List (S33)) → Int → List Int → Int → Option ((List (List Int)))
  | 0, _, _, _, _, _, _ => none
  | k + 1, x0, x3, x4, x5, x6, x7 => if x7 < (x0.length : Int) then (if 0 ≤ x7 then (if 0 ≤ x5 then (if x5 < (x4.length : Int) then ((cordonref02_Same.f k (rd_L4 x0 x7) (rd_L4 x4 x5)).bind fun t712 => (if t712 = true then (if x6.length < 17592186044416 then (cordonref11_Groups.l1 k x0 x3 x4 x5 (x6 ++ [x7]) (wrap64 (x7 + 1))) else (none)) else (cordonref11_Groups.l1 k x0 x3 x4 x5 x6 (wrap64 (x7 + 1))))) else (none)) else (none)) else (none)) else (if x3.length < 5864062014805 then (cordonref11_Groups.l0 k x0 (x3 ++ [x6]) x4 (wrap64 (x5 + 1))) else (none))
end
def cordonref11_Groups.f (k : Nat) (l0 : List (List (S33))) : Option ((List (List Int))) := (cordonref11_Distinct.f k l0).bind fun t707 => (cordonref11_Groups.l0 k l0 ([] : List (List Int)) t707 0)
theorem cordonref11_Groups.mono_l : ∀ k, (∀ y0 y1 y2 y3, LeO (cordonref11_Groups.l0 k y0 y1 y2 y3) (cordonref11_Groups.l0 (k + 1) y0 y1 y2 y3)) ∧ (∀ y0 y1 y2 y3 y4 y5, LeO (cordonref11_Groups.l1 k y0 y1 y2 y3 y4 y5) (cordonref11_Groups.l1 (k + 1) y0 y1 y2 y3 y4 y5))
  | 0 => ⟨fun _ _ _ _ r h => by simp [cordonref11_Groups.l0] at h, fun _ _ _ _ _ _ r h => by simp [cordonref11_Groups.l1] at h⟩
  | k + 1 => by
    obtain ⟨ih0, ih1⟩ := cordonref11_Groups.mono_l k
    refine ⟨?_, ?_⟩
    · intro y0 y1 y2 y3
      unfold cordonref11_Groups.l0
      repeat' first
      | (with_reducible exact ih0 _ _ _ _)
      | (with_reducible exact ih1 _ _ _ _ _ _)
      | (with_reducible exact cordonref02_Same.mono _ _ _)
      | (with_reducible exact cordonref11_Distinct.mono _ _)
      | (with_reducible exact LeO.refl _)
      | (with_reducible exact LeO.none _)
      | (with_reducible refine LeO.ite ?_ ?_)
      | (with_reducible refine LeO.bind ?_ (fun _ => ?_))
      | exact ih0 _ _ _ _
      | exact ih1 _ _ _ _ _ _
      | exact cordonref02_Same.mono _ _ _
      | exact cordonref11_Distinct.mono _ _
      | exact LeO.none _
      | refine LeO.ite ?_ ?_
      | refine LeO.bind ?_ (fun _ => ?_)
    · intro y0 y1 y2 y3 y4 y5
      unfold cordonref11_Groups.l1
      repeat' first
      | (with_reducible exact ih0 _ _ _ _)
      | (with_reducible exact ih1 _ _ _ _ _ _)
      | (with_reducible exact cordonref02_Same.mono _ _ _)
      | (with_reducible exact cordonref11_Distinct.mono _ _)
      | (with_reducible exact LeO.refl _)
      | (with_reducible exact LeO.none _)
      | (with_reducible refine LeO.ite ?_ ?_)
      | (with_reducible refine LeO.bind ?_ (fun _ => ?_))
      | exact ih0 _ _ _ _
      | exact ih1 _ _ _ _ _ _
      | exact cordonref02_Same.mono _ _ _
      | exact cordonref11_Distinct.mono _ _
      | exact LeO.none _
      | refine LeO.ite ?_ ?_
      | refine LeO.bind ?_ (fun _ => ?_)
set_option maxHeartbeats 8000000 in
set_option maxRecDepth 100000 in
theorem cordonref11_Groups.calls (k : Nat) (P0_ : Nat → Prop) (A0 : Option Addr) (c0 : Nat) (l0 : List (List (S33))) (r : List (List Int)) (w : World) (hs0 : Kd.V (Kd.slice 33 k33) 22 w w.heap.size (fun k_ => P0_ k_) (.slice A0 l0.length c0) l0) (h : cordonref11_Groups.f k l0 = some r) :
    Calls Try.prog 67 #[.slice A0 l0.length c0] w fun e w' => ∃ v0_ : Value, e = .returned (v0_) ∧ Kd.N (Kd.slice 3 (Kd.int .i64)) 23 w' w.heap.size (fun k_ => (P0_ k_ ∨ w.heap.size ≤ k_)) v0_ r ∧ Below w.heap.size w w' := by
  have HO0 := Aside0.mk (show Kd.V (Kd.slice 33 k33) 22 w w.heap.size (fun k_ => (P0_ k_ ∨ w.heap.size ≤ k_)) (.slice A0 l0.length c0) l0 from Kd.V_mono hs0 (fun k_ hk => .inl hk))
  have HB := Aside0.mk (Below.refl w.heap.size w)
  have H : ((cordonref11_Distinct.f k l0).bind fun t707 => (cordonref11_Groups.l0 k l0 ([] : List (List Int)) t707 0)) = some r := h
  clear h
  replace H := Option.bind_eq_some_iff.mp H
  obtain ⟨t707, A20, H⟩ := H
  replace H : (cordonref11_Groups.l0 k l0 ([] : List (List Int)) t707 0) = some r := H
  have A2 := Aside0.mk A20
  clear A20
  have H' := Aside0.mk H
  clear H
  go_enter Try.func67, Try.ntmps67
  go_wp2_with (first | (go_at_call 62; (with_reducible refine (cordonref11_Distinct.calls k (fun k_ => (P0_ k_ ∨ w.heap.size ≤ k_)) _ _ l0 t707 _ ?side1 A2.out).mono ?_); (case side1 => exact HO0.out); rintro e w3 ⟨v708, rfl, ho0, hb⟩; have n0_ := Aside0.mk (Kd.V_elder' (by (with_reducible repeat (first | apply Kd.V_alloc | apply Kd.V_drewN | apply Kd.V_drew)); exact HO0.out) (Kd.N_base ho0) hb); have n1_ := Aside0.mk (Kd.N_lower (Kd.N_mono (ok' := fun k_ => (P0_ k_ ∨ w.heap.size ≤ k_)) ho0 (fun k_ hk_ => Or.elim hk_ (fun hs_ => hs_) (fun hn_ => (.inr (Nat.le_trans (below_size (by repeat (first | (with_reducible first | exact HB.out | apply below_alloc | apply pw_below_drewN | apply below_drew1) | exact HB.out))) hn_))))) (below_size (by repeat (first | (with_reducible first | exact HB.out | apply below_alloc | apply pw_below_drewN | apply below_drew1) | exact HB.out)))); have n2_ := Aside0.mk (below_step (by repeat (first | (with_reducible first | exact HB.out | apply below_alloc | apply pw_below_drewN | apply below_drew1) | exact HB.out)) hb); clear HO0; clear HB; have HO0 := n0_; have HO709 := n1_; have HB := n2_; clear n0_ n1_ n2_; (try clear hb); (try clear hb2); (try clear hk); (try clear hi); (try clear ho0)))
  repeat (go_quiet (first | (go_at_call 62; (with_reducible refine (cordonref11_Distinct.calls k (fun k_ => (P0_ k_ ∨ w.heap.size ≤ k_)) _ _ l0 t707 _ ?side1 A2.out).mono ?_); (case side1 => exact HO0.out); rintro e w3 ⟨v708, rfl, ho0, hb⟩; have n0_ := Aside0.mk (Kd.V_elder' (by (with_reducible repeat (first | apply Kd.V_alloc | apply Kd.V_drewN | apply Kd.V_drew)); exact HO0.out) (Kd.N_base ho0) hb); have n1_ := Aside0.mk (Kd.N_lower (Kd.N_mono (ok' := fun k_ => (P0_ k_ ∨ w.heap.size ≤ k_)) ho0 (fun k_ hk_ => Or.elim hk_ (fun hs_ => hs_) (fun hn_ => (.inr (Nat.le_trans (below_size (by repeat (first | (with_reducible first | exact HB.out | apply below_alloc | apply pw_below_drewN | apply below_drew1) | exact HB.out))) hn_))))) (below_size (by repeat (first | (with_reducible first | exact HB.out | apply below_alloc | apply pw_below_drewN | apply below_drew1) | exact HB.out)))); have n2_ := Aside0.mk (below_step (by repeat (first | (with_reducible first | exact HB.out | apply below_alloc | apply pw_below_drewN | apply below_drew1) | exact HB.out)) hb); clear HO0; clear HB; have HO0 := n0_; have HO709 := n1_; have HB := n2_; clear n0_ n1_ n2_; (try clear hb); (try clear hb2); (try clear hk); (try clear hi); (try clear ho0))); try go_wp2_with (first | (go_at_call 62; (with_reducible refine (cordonref11_Distinct.calls k (fun k_ => (P0_ k_ ∨ w.heap.size ≤ k_)) _ _ l0 t707 _ ?side1 A2.out).mono ?_); (case side1 => exact HO0.out); rintro e w3 ⟨v708, rfl, ho0, hb⟩; have n0_ := Aside0.mk (Kd.V_elder' (by (with_reducible repeat (first | apply Kd.V_alloc | apply Kd.V_drewN | apply Kd.V_drew)); exact HO0.out) (Kd.N_base ho0) hb); have n1_ := Aside0.mk (Kd.N_lower (Kd.N_mono (ok' := fun k_ => (P0_ k_ ∨ w.heap.size ≤ k_)) ho0 (fun k_ hk_ => Or.elim hk_ (fun hs_ => hs_) (fun hn_ => (.inr (Nat.le_trans (below_size (by repeat (first | (with_reducible first | exact HB.out | apply below_alloc | apply pw_below_drewN | apply below_drew1) | exact HB.out))) hn_))))) (below_size (by repeat (first | (with_reducible first | exact HB.out | apply below_alloc | apply pw_below_drewN | apply below_drew1) | exact HB.out)))); have n2_ := Aside0.mk (below_step (by repeat (first | (with_reducible first | exact HB.out | apply below_alloc | apply pw_below_drewN | apply below_drew1) | exact HB.out)) hb); clear HO0; clear HB; have HO0 := n0_; have HO709 := n1_; have HB := n2_; clear n0_ n1_ n2_; (try clear hb); (try clear hb2); (try clear hk); (try clear hi); (try clear ho0))))
  go_loopg [3, 5] k (fun kq v3 v5 w' => ∃ (x3_1 : List (List Int)) (x5_1 : Int), v5 = .int .i64 x5_1 ∧ Aside0 (cordonref11_Groups.l0 kq l0 x3_1 t707 x5_1 = some r) ∧ Aside0 (kq ≤ k) ∧ Aside0 (Kd.V (Kd.slice 33 k33) 22 w' w.heap.size (fun k_ => (P0_ k_ ∨ w.heap.size ≤ k_) ∧ some k_ ≠ (v3 : Value).ownBlock ∧ some k_ ≠ (v708 : Value).ownBlock) (.slice A0 l0.length c0) l0) ∧ Aside0 (Kd.N (Kd.slice 3 (Kd.int .i64)) 23 w' w.heap.size (fun k_ => (P0_ k_ ∨ w.heap.size ≤ k_) ∧ some k_ ≠ (v708 : Value).ownBlock) v3 x3_1) ∧ Aside0 (Kd.N (Kd.slice 33 k33) 22 w' w.heap.size (fun k_ => (P0_ k_ ∨ w.heap.size ≤ k_) ∧ some k_ ≠ (v3 : Value).ownBlock) v708 t707) ∧ Aside0 (Below w.heap.size w w'))
  case atStart => exact ⟨(([] : List (List Int))), (0), (by first | rfl | (simp; done) | (simp [*]; done)), H', ⟨Nat.le_refl _⟩, ⟨by (with_reducible repeat (first | apply Kd.V_alloc | apply Kd.V_drewN | apply Kd.V_drew)); exact Kd.V_mono HO0.out (fun _ hk => ⟨hk.1, ⟨(by simp [Value.ownBlock]), hk.2⟩⟩)⟩, ⟨by first | exact Kd.S_nil _ _ _ _ _ | exact Kd.N_nil _ _ _ _ _ | exact Kd.V_nil _ _ _ _ _ | exact Kd.Q_nil _ _ _ _ _ | exact Kd.R_nil _ _ _ _ _⟩, ⟨by (with_reducible repeat (first | apply Kd.N_alloc | apply Kd.N_drewN | apply Kd.N_drew)); exact Kd.N_mono HO709.out (fun _ hk => ⟨hk, (by simp [Value.ownBlock])⟩)⟩, ⟨by repeat (first | (with_reducible first | exact HB.out | apply below_alloc | apply pw_below_drewN | apply below_drew1) | exact HB.out)⟩⟩
  case round =>
    clear H'
    try clear p2
    obtain ⟨x3_1, x5_1, rfl, HA, HK1, HO_0, HO_3, HO_4, HB⟩ := hrel
    cases gk with
    | zero => exact absurd HA.out (by simp [cordonref11_Groups.l0])
    | succ k1 =>
      have H := HA.out
      clear HA
      simp only [cordonref11_Groups.l0] at H
      by_cases c4 : x5_1 < (t707.length : Int)
      · rw [if_pos c4] at H
        have c4b0 : decide (x5_1 < (t707.length : Int)) = true := decide_eq_true c4
        clear c4
        have H' := Aside0.mk H
        clear H
        obtain ⟨Ao5, co5, eo5⟩ := Kd.N_slice HO_4.out
        subst eo5
        go_wp2
        repeat (go_quiet (fail); try go_wp2)
        go_loopg [6, 7] k1 (fun kq v6 v7 w' => ∃ (x6_2 : List Int) (x7_2 : Int), v7 = .int .i64 x7_2 ∧ Aside0 (cordonref11_Groups.l1 kq l0 x3_1 t707 x5_1 x6_2 x7_2 = some r) ∧ Aside0 (kq ≤ k1) ∧ Aside0 (Kd.V (Kd.slice 33 k33) 22 w' w.heap.size (fun k_ => (P0_ k_ ∨ w.heap.size ≤ k_) ∧ some k_ ≠ (u3 : Value).ownBlock ∧ some k_ ≠ ((.slice Ao5 t707.length co5) : Value).ownBlock ∧ some k_ ≠ (v6 : Value).ownBlock) (.slice A0 l0.length c0) l0) ∧ Aside0 (Kd.N (Kd.slice 3 (Kd.int .i64)) 23 w' w.heap.size (fun k_ => (P0_ k_ ∨ w.heap.size ≤ k_) ∧ some k_ ≠ ((.slice Ao5 t707.length co5) : Value).ownBlock ∧ some k_ ≠ (v6 : Value).ownBlock) u3 x3_1) ∧ Aside0 (Kd.N (Kd.slice 33 k33) 22 w' w.heap.size (fun k_ => (P0_ k_ ∨ w.heap.size ≤ k_) ∧ some k_ ≠ (u3 : Value).ownBlock ∧ some k_ ≠ (v6 : Value).ownBlock) (.slice Ao5 t707.length co5) t707) ∧ Aside0 (Kd.R (Kd.int .i64) 3 w' w.heap.size (fun k_ => (w.heap.size ≤ k_)) v6 x6_2) ∧ Aside0 (Below w.heap.size w w'))
        case atStart => exact ⟨(([] : List Int)), (0), (by first | rfl | (simp; done) | (simp [*]; done)), H', ⟨Nat.le_refl _⟩, ⟨by (with_reducible repeat (first | apply Kd.V_alloc | apply Kd.V_drewN | apply Kd.V_drew)); exact Kd.V_mono HO_0.out (fun _ hk => ⟨hk.1, ⟨hk.2.1, ⟨hk.2.2, (by simp [Value.ownBlock])⟩⟩⟩)⟩, ⟨by (with_reducible repeat (first | apply Kd.N_alloc | apply Kd.N_drewN | apply Kd.N_drew)); exact Kd.N_mono HO_3.out (fun _ hk => ⟨hk.1, ⟨hk.2, (by simp [Value.ownBlock])⟩⟩)⟩, ⟨by (with_reducible repeat (first | apply Kd.N_alloc | apply Kd.N_drewN | apply Kd.N_drew)); exact Kd.N_mono HO_4.out (fun _ hk => ⟨hk.1, ⟨hk.2, (by simp [Value.ownBlock])⟩⟩)⟩, ⟨by first | exact Kd.R_nil _ _ _ _ _ | exact Kd.N_nil _ _ _ _ _ | exact Kd.V_nil _ _ _ _ _ | exact Kd.Q_nil _ _ _ _ _ | exact Kd.S_nil _ _ _ _ _⟩, ⟨by repeat (first | (with_reducible first | exact HB.out | apply below_alloc | apply pw_below_drewN | apply below_drew1) | exact HB.out)⟩⟩
        case round =>
          clear H'
          try clear p2
          try clear c4
          try clear c4b0
          try clear p2
          obtain ⟨x6_2, x7_2, rfl, HA, HK2, HO_0, HO_3, HO_4, HO_6, HB⟩ := hrel
          cases gk with
          | zero => exact absurd HA.out (by simp [cordonref11_Groups.l1])
          | succ k2 =>
            have H := HA.out
            clear HA
            simp only [cordonref11_Groups.l1] at H
            by_cases c6 : x7_2 < (l0.length : Int)
            · rw [if_pos c6] at H
              have c6b0 : decide (x7_2 < (l0.length : Int)) = true := decide_eq_true c6
              clear c6
              by_cases c7 : 0 ≤ x7_2
              · rw [if_pos c7] at H
                have c7b0 : decide (0 ≤ x7_2) = true := decide_eq_true c7
                clear c7
                by_cases c8 : 0 ≤ x5_1
                · rw [if_pos c8] at H
                  have c8b0 : decide (0 ≤ x5_1) = true := decide_eq_true c8
                  clear c8
                  by_cases c9 : x5_1 < (t707.length : Int)
                  · rw [if_pos c9] at H
                    have c9b0 : decide (x5_1 < (t707.length : Int)) = true := decide_eq_true c9
                    clear c9
                    replace H := Option.bind_eq_some_iff.mp H
                    obtain ⟨t712, A100, H⟩ := H
                    replace H : (if t712 = true then (if x6_2.length < 17592186044416 then (cordonref11_Groups.l1 k2 l0 x3_1 t707 x5_1 (x6_2 ++ [x7_2]) (wrap64 (x7_2 + 1))) else (none)) else (cordonref11_Groups.l1 k2 l0 x3_1 t707 x5_1 x6_2 (wrap64 (x7_2 + 1)))) = some r := H
                    have A10 := Aside0.mk A100
                    clear A100
                    by_cases c11 : t712 = true
                    · subst c11
                      have H1 : (if x6_2.length < 17592186044416 then (cordonref11_Groups.l1 k2 l0 x3_1 t707 x5_1 (x6_2 ++ [x7_2]) (wrap64 (x7_2 + 1))) else (none)) = some r := by rw [if_pos rfl] at H; exact H
                      clear H
                      have H := H1
                      clear H1
                      by_cases c12 : x6_2.length < 17592186044416
                      · rw [if_pos c12] at H
                        have LMc12 := Aside0.mk c12
                        clear c12
                        obtain ⟨y713, hy713⟩ : ∃ y_ : List Int, y_ = (x6_2 ++ [x7_2]) := ⟨_, rfl⟩
                        replace H : (cordonref11_Groups.l1 k2 l0 x3_1 t707 x5_1 y713 (wrap64 (x7_2 + 1))) = some r := by first | (rw [hy713]; with_reducible exact H) | (have H2_ := (Option.bind_some _ _).symm.trans H; rw [hy713]; with_reducible exact H2_) | (have H2_ := (Option.bind_some _ _).symm.trans H; with_reducible exact H2_) | with_reducible exact H | (rw [hy713]; exact H) | exact H
                        have Ny713 := Aside0.mk hy713
                        clear hy713
                        have H' := Aside0.mk H
                        clear H
                        have p710 : 0 ≤ (x7_2 : Int) := of_decide_eq_true (by first | (with_reducible assumption) | assumption)
                        have q710 : x7_2 < (l0.length : Int) := of_decide_eq_true (by first | (with_reducible assumption) | assumption)
                        obtain ⟨ad710, A710_0, c710_0, e710, hx710_0, hl710_0, hi710_0⟩ := at_L4 (Kd.V_reads' HO_0.out).2.2 x7_2 p710 q710
                        cases e710
                        obtain ⟨ce710, hce710, hMe710, hcc710⟩ := Kd.V_get HO_0.out [] x7_2 p710 (by first | exact q710 | exact of_decide_eq_true (by first | (with_reducible assumption) | assumption) | (have e_ := (Kd.V_reads' HO_0.out).1; omega))
                        obtain ⟨ua710_0, uc710_0, rfl, ul710_0, ge710_0⟩ := Kd.FK_slice_open hMe710
                        have hv710_0 := hcc710 0 _ rfl
                        rw [Nat.add_zero, show ((Kd.slice 33 k33)).sz = 1 from rfl, Nat.mul_one] at hv710_0
                        replace hv710_0 := Option.some.inj (hv710_0.symm.trans hx710_0)
                        injection hv710_0 with hva_ hvn_ hvc_
                        rw [hva_] at ge710_0
                        rw [hvc_] at ul710_0
                        have HL710_0 := Aside0.mk (show Kd.V k33 33 _ w.heap.size _ _ (rd_L4 l0 x7_2) from Kd.V_mk ul710_0 ge710_0)
                        clear hva_ hvn_ hvc_ ge710_0 ul710_0
                        clear hcc710 hce710
                        have HR710_0 := Aside0.mk hi710_0
                        have HC710_0 := Aside0.mk hl710_0
                        clear hi710_0 hl710_0
                        replace p710 := eq_true p710
                        replace q710 := eq_true q710
                        have p711 : 0 ≤ (x5_1 : Int) := of_decide_eq_true (by first | (with_reducible assumption) | assumption)
                        have q711 : x5_1 < (t707.length : Int) := of_decide_eq_true (by first | (with_reducible assumption) | assumption)
                        obtain ⟨ad711, A711_0, c711_0, e711, hx711_0, hl711_0, hi711_0⟩ := at_L4 (Kd.N_reads' HO_4.out).2.2 x5_1 p711 q711
                        cases e711
                        obtain ⟨ce711, hce711, hMe711, hcc711⟩ := Kd.N_get HO_4.out [] x5_1 p711 (by first | exact q711 | exact of_decide_eq_true (by first | (with_reducible assumption) | assumption) | (have e_ := (Kd.N_reads' HO_4.out).1; omega))
                        obtain ⟨ua711_0, uc711_0, rfl, ul711_0, ge711_0⟩ := Kd.FK_slice_open hMe711
                        have hv711_0 := hcc711 0 _ rfl
                        rw [Nat.add_zero, show ((Kd.slice 33 k33)).sz = 1 from rfl, Nat.mul_one] at hv711_0
                        replace hv711_0 := Option.some.inj (hv711_0.symm.trans hx711_0)
                        injection hv711_0 with hva_ hvn_ hvc_
                        rw [hva_] at ge711_0
                        rw [hvc_] at ul711_0
                        have HL711_0 := Aside0.mk (show Kd.V k33 33 _ w.heap.size _ _ (rd_L4 t707 x5_1) from Kd.V_mk ul711_0 ge711_0)
                        clear hva_ hvn_ hvc_ ge711_0 ul711_0
                        clear hcc711 hce711
                        have HR711_0 := Aside0.mk hi711_0
                        have HC711_0 := Aside0.mk hl711_0
                        clear hi711_0 hl711_0
                        replace p711 := eq_true p711
                        replace q711 := eq_true q711
                        go_wp2_with (first | (go_at_call 49; (with_reducible refine (cordonref02_Same.calls k2 _ _ (rd_L4 l0 x7_2) _ _ (rd_L4 t707 x5_1) true _ ?side1 ?side2 ?side3 ?side4 A10.out).mono ?_); (case side1 => repeat (first | exact (by repeat (first | (with_reducible exact HR710_0.out) | (with_reducible refine Kd.C_alloc ?_ _) | (with_reducible refine Kd.C_drewN ?_ _) | (with_reducible refine Kd.C_drew ?_) | exact HR710_0.out)) | (with_reducible refine Kd.C_alloc ?_ _) | (with_reducible refine Kd.C_drewN ?_ _) | (with_reducible refine Kd.C_drew ?_))); (case side2 => exact HC710_0.out); (case side3 => repeat (first | exact (by repeat (first | (with_reducible exact HR711_0.out) | (with_reducible refine Kd.C_alloc ?_ _) | (with_reducible refine Kd.C_drewN ?_ _) | (with_reducible refine Kd.C_drew ?_) | exact HR711_0.out)) | (with_reducible refine Kd.C_alloc ?_ _) | (with_reducible refine Kd.C_drewN ?_ _) | (with_reducible refine Kd.C_drew ?_))); (case side4 => exact HC711_0.out); rintro e w' ⟨rfl, ⟨nd, rfl⟩⟩; (try first | exact ⟨rfl, _, World.drewN_drewN _ _ _⟩ | exact ⟨rfl, _, Eq.trans (World.drewN_drewN _ _ _) (congrArg (World.drewN _) (Nat.add_assoc _ _ _))⟩)) | ((with_reducible refine gate_builtin (b := .append) (xs := #[.tmp 31, .tmp 33]) rfl ?_); at_builtin; refine Kd.R_append (Kd.int .i64) (w0 := w) w.heap.size rfl (.tmp 31) (.tmp 33) 23 3 (.int .i64 0) 8 rfl Try.underlying23 info3 rfl (by decide) (by omega) u6 x6_2 x7_2 [.int .i64 x7_2] (fun k_ => (w.heap.size ≤ k_)) (fun _ => False) rfl rfl ?aP (fun _ hk => hk.elim) ?aF ?aO ?aB ?aS ?aL ?_; (case aP => exact rfl); (case aB => exact (by repeat (first | (with_reducible first | exact HB.out | apply below_alloc | apply pw_below_drewN | apply below_drew1) | exact HB.out))); (case aF => exact (fun k_ hk => (Nat.le_trans (below_size (by repeat (first | (with_reducible first | exact HB.out | apply below_alloc | apply pw_below_drewN | apply below_drew1) | exact HB.out))) hk))); (case aO => exact (by (with_reducible repeat (first | apply Kd.R_alloc | apply Kd.R_drewN | apply Kd.R_drew)); exact HO_6.out)); (case aS => exact (below_size (by repeat (first | (with_reducible first | exact HB.out | apply below_alloc | apply pw_below_drewN | apply below_drew1) | exact HB.out)))); (case aL => have := LMc12.out; omega); intro v714 w13 ho hb hg hat; rw [← Ny713.out] at ho; have n0_ := Aside0.mk (Kd.V_afterv (ok := (fun k_ => (P0_ k_ ∨ w.heap.size ≤ k_) ∧ some k_ ≠ (u3 : Value).ownBlock ∧ some k_ ≠ (.slice (some ad711) t707.length co5 : Value).ownBlock)) (by (with_reducible repeat (first | apply Kd.V_alloc | apply Kd.V_drewN | apply Kd.V_drew)); exact Kd.V_mono HO_0.out (fun _ hk => ⟨⟨hk.1, ⟨hk.2.1, hk.2.2.1⟩⟩, hk.2.2.2⟩)) hg hat); have n1_ := Aside0.mk (Kd.N_afterv (ok := (fun k_ => (P0_ k_ ∨ w.heap.size ≤ k_) ∧ some k_ ≠ (.slice (some ad711) t707.length co5 : Value).ownBlock)) (by (with_reducible repeat (first | apply Kd.N_alloc | apply Kd.N_drewN | apply Kd.N_drew)); exact Kd.N_mono HO_3.out (fun _ hk => ⟨⟨hk.1, hk.2.1⟩, hk.2.2⟩)) hg hat); have n2_ := Aside0.mk (Kd.N_afterv (ok := (fun k_ => (P0_ k_ ∨ w.heap.size ≤ k_) ∧ some k_ ≠ (u3 : Value).ownBlock)) (by (with_reducible repeat (first | apply Kd.N_alloc | apply Kd.N_drewN | apply Kd.N_drew)); exact Kd.N_mono HO_4.out (fun _ hk => ⟨⟨hk.1, hk.2.1⟩, hk.2.2⟩)) hg hat); have n3_ := Aside0.mk (Kd.V_afterv (ok := (fun k_ => (P0_ k_ ∨ w.heap.size ≤ k_) ∧ some k_ ≠ (u3 : Value).ownBlock ∧ some k_ ≠ (.slice (some ad711) t707.length co5 : Value).ownBlock)) (by (with_reducible repeat (first | apply Kd.V_alloc | apply Kd.V_drewN | apply Kd.V_drew)); exact Kd.V_mono HL710_0.out (fun _ hk => ⟨⟨hk.1, ⟨hk.2.1, hk.2.2.1⟩⟩, hk.2.2.2⟩)) hg hat); have n4_ := Aside0.mk (Kd.V_afterv (ok := (fun k_ => (P0_ k_ ∨ w.heap.size ≤ k_) ∧ some k_ ≠ (u3 : Value).ownBlock ∧ some k_ ≠ (.slice (some ad711) t707.length co5 : Value).ownBlock)) (by (with_reducible repeat (first | apply Kd.V_alloc | apply Kd.V_drewN | apply Kd.V_drew)); exact Kd.V_mono HL711_0.out (fun _ hk => ⟨⟨hk.1.1, ⟨hk.1.2.1, hk.2⟩⟩, hk.1.2.2⟩)) hg hat); have n5_ := Aside0.mk (hb); have n6_ := Aside0.mk (ho); clear HO_0; clear HO_3; clear HO_4; clear HL710_0; clear HL711_0; clear HB; clear HO_6; have HO_0 := n0_; have HO_3 := n1_; have HO_4 := n2_; have HL710_0 := n3_; have HL711_0 := n4_; have HB := n5_; have HO715 := n6_; clear n0_ n1_ n2_ n3_ n4_ n5_ n6_; clear ho hb hg hat))
                        repeat (go_quiet (first | (go_at_call 49; (with_reducible refine (cordonref02_Same.calls k2 _ _ (rd_L4 l0 x7_2) _ _ (rd_L4 t707 x5_1) true _ ?side1 ?side2 ?side3 ?side4 A10.out).mono ?_); (case side1 => repeat (first | exact (by repeat (first | (with_reducible exact HR710_0.out) | (with_reducible refine Kd.C_alloc ?_ _) | (with_reducible refine Kd.C_drewN ?_ _) | (with_reducible refine Kd.C_drew ?_) | exact HR710_0.out)) | (with_reducible refine Kd.C_alloc ?_ _) | (with_reducible refine Kd.C_drewN ?_ _) | (with_reducible refine Kd.C_drew ?_))); (case side2 => exact HC710_0.out); (case side3 => repeat (first | exact (by repeat (first | (with_reducible exact HR711_0.out) | (with_reducible refine Kd.C_alloc ?_ _) | (with_reducible refine Kd.C_drewN ?_ _) | (with_reducible refine Kd.C_drew ?_) | exact HR711_0.out)) | (with_reducible refine Kd.C_alloc ?_ _) | (with_reducible refine Kd.C_drewN ?_ _) | (with_reducible refine Kd.C_drew ?_))); (case side4 => exact HC711_0.out); rintro e w' ⟨rfl, ⟨nd, rfl⟩⟩; (try first | exact ⟨rfl, _, World.drewN_drewN _ _ _⟩ | exact ⟨rfl, _, Eq.trans (World.drewN_drewN _ _ _) (congrArg (World.drewN _) (Nat.add_assoc _ _ _))⟩)) | ((with_reducible refine gate_builtin (b := .append) (xs := #[.tmp 31, .tmp 33]) rfl ?_); at_builtin; refine Kd.R_append (Kd.int .i64) (w0 := w) w.heap.size rfl (.tmp 31) (.tmp 33) 23 3 (.int .i64 0) 8 rfl Try.underlying23 info3 rfl (by decide) (by omega) u6 x6_2 x7_2 [.int .i64 x7_2] (fun k_ => (w.heap.size ≤ k_)) (fun _ => False) rfl rfl ?aP (fun _ hk => hk.elim) ?aF ?aO ?aB ?aS ?aL ?_; (case aP => exact rfl); (case aB => exact (by repeat (first | (with_reducible first | exact HB.out | apply below_alloc | apply pw_below_drewN | apply below_drew1) | exact HB.out))); (case aF => exact (fun k_ hk => (Nat.le_trans (below_size (by repeat (first | (with_reducible first | exact HB.out | apply below_alloc | apply pw_below_drewN | apply below_drew1) | exact HB.out))) hk))); (case aO => exact (by (with_reducible repeat (first | apply Kd.R_alloc | apply Kd.R_drewN | apply Kd.R_drew)); exact HO_6.out)); (case aS => exact (below_size (by repeat (first | (with_reducible first | exact HB.out | apply below_alloc | apply pw_below_drewN | apply below_drew1) | exact HB.out)))); (case aL => have := LMc12.out; omega); intro v714 w13 ho hb hg hat; rw [← Ny713.out] at ho; have n0_ := Aside0.mk (Kd.V_afterv (ok := (fun k_ => (P0_ k_ ∨ w.heap.size ≤ k_) ∧ some k_ ≠ (u3 : Value).ownBlock ∧ some k_ ≠ (.slice (some ad711) t707.length co5 : Value).ownBlock)) (by (with_reducible repeat (first | apply Kd.V_alloc | apply Kd.V_drewN | apply Kd.V_drew)); exact Kd.V_mono HO_0.out (fun _ hk => ⟨⟨hk.1, ⟨hk.2.1, hk.2.2.1⟩⟩, hk.2.2.2⟩)) hg hat); have n1_ := Aside0.mk (Kd.N_afterv (ok := (fun k_ => (P0_ k_ ∨ w.heap.size ≤ k_) ∧ some k_ ≠ (.slice (some ad711) t707.length co5 : Value).ownBlock)) (by (with_reducible repeat (first | apply Kd.N_alloc | apply Kd.N_drewN | apply Kd.N_drew)); exact Kd.N_mono HO_3.out (fun _ hk => ⟨⟨hk.1, hk.2.1⟩, hk.2.2⟩)) hg hat); have n2_ := Aside0.mk (Kd.N_afterv (ok := (fun k_ => (P0_ k_ ∨ w.heap.size ≤ k_) ∧ some k_ ≠ (u3 : Value).ownBlock)) (by (with_reducible repeat (first | apply Kd.N_alloc | apply Kd.N_drewN | apply Kd.N_drew)); exact Kd.N_mono HO_4.out (fun _ hk => ⟨⟨hk.1, hk.2.1⟩, hk.2.2⟩)) hg hat); have n3_ := Aside0.mk (Kd.V_afterv (ok := (fun k_ => (P0_ k_ ∨ w.heap.size ≤ k_) ∧ some k_ ≠ (u3 : Value).ownBlock ∧ some k_ ≠ (.slice (some ad711) t707.length co5 : Value).ownBlock)) (by (with_reducible repeat (first | apply Kd.V_alloc | apply Kd.V_drewN | apply Kd.V_drew)); exact Kd.V_mono HL710_0.out (fun _ hk => ⟨⟨hk.1, ⟨hk.2.1, hk.2.2.1⟩⟩, hk.2.2.2⟩)) hg hat); have n4_ := Aside0.mk (Kd.V_afterv (ok := (fun k_ => (P0_ k_ ∨ w.heap.size ≤ k_) ∧ some k_ ≠ (u3 : Value).ownBlock ∧ some k_ ≠ (.slice (some ad711) t707.length co5 : Value).ownBlock)) (by (with_reducible repeat (first | apply Kd.V_alloc | apply Kd.V_drewN | apply Kd.V_drew)); exact Kd.V_mono HL711_0.out (fun _ hk => ⟨⟨hk.1.1, ⟨hk.1.2.1, hk.2⟩⟩, hk.1.2.2⟩)) hg hat); have n5_ := Aside0.mk (hb); have n6_ := Aside0.mk (ho); clear HO_0; clear HO_3; clear HO_4; clear HL710_0; clear HL711_0; clear HB; clear HO_6; have HO_0 := n0_; have HO_3 := n1_; have HO_4 := n2_; have HL710_0 := n3_; have HL711_0 := n4_; have HB := n5_; have HO715 := n6_; clear n0_ n1_ n2_ n3_ n4_ n5_ n6_; clear ho hb hg hat)); try go_wp2_with (first | (go_at_call 49; (with_reducible refine (cordonref02_Same.calls k2 _ _ (rd_L4 l0 x7_2) _ _ (rd_L4 t707 x5_1) true _ ?side1 ?side2 ?side3 ?side4 A10.out).mono ?_); (case side1 => repeat (first | exact (by repeat (first | (with_reducible exact HR710_0.out) | (with_reducible refine Kd.C_alloc ?_ _) | (with_reducible refine Kd.C_drewN ?_ _) | (with_reducible refine Kd.C_drew ?_) | exact HR710_0.out)) | (with_reducible refine Kd.C_alloc ?_ _) | (with_reducible refine Kd.C_drewN ?_ _) | (with_reducible refine Kd.C_drew ?_))); (case side2 => exact HC710_0.out); (case side3 => repeat (first | exact (by repeat (first | (with_reducible exact HR711_0.out) | (with_reducible refine Kd.C_alloc ?_ _) | (with_reducible refine Kd.C_drewN ?_ _) | (with_reducible refine Kd.C_drew ?_) | exact HR711_0.out)) | (with_reducible refine Kd.C_alloc ?_ _) | (with_reducible refine Kd.C_drewN ?_ _) | (with_reducible refine Kd.C_drew ?_))); (case side4 => exact HC711_0.out); rintro e w' ⟨rfl, ⟨nd, rfl⟩⟩; (try first | exact ⟨rfl, _, World.drewN_drewN _ _ _⟩ | exact ⟨rfl, _, Eq.trans (World.drewN_drewN _ _ _) (congrArg (World.drewN _) (Nat.add_assoc _ _ _))⟩)) | ((with_reducible refine gate_builtin (b := .append) (xs := #[.tmp 31, .tmp 33]) rfl ?_); at_builtin; refine Kd.R_append (Kd.int .i64) (w0 := w) w.heap.size rfl (.tmp 31) (.tmp 33) 23 3 (.int .i64 0) 8 rfl Try.underlying23 info3 rfl (by decide) (by omega) u6 x6_2 x7_2 [.int .i64 x7_2] (fun k_ => (w.heap.size ≤ k_)) (fun _ => False) rfl rfl ?aP (fun _ hk => hk.elim) ?aF ?aO ?aB ?aS ?aL ?_; (case aP => exact rfl); (case aB => exact (by repeat (first | (with_reducible first | exact HB.out | apply below_alloc | apply pw_below_drewN | apply below_drew1) | exact HB.out))); (case aF => exact (fun k_ hk => (Nat.le_trans (below_size (by repeat (first | (with_reducible first | exact HB.out | apply below_alloc | apply pw_below_drewN | apply below_drew1) | exact HB.out))) hk))); (case aO => exact (by (with_reducible repeat (first | apply Kd.R_alloc | apply Kd.R_drewN | apply Kd.R_drew)); exact HO_6.out)); (case aS => exact (below_size (by repeat (first | (with_reducible first | exact HB.out | apply below_alloc | apply pw_below_drewN | apply below_drew1) | exact HB.out)))); (case aL => have := LMc12.out; omega); intro v714 w13 ho hb hg hat; rw [← Ny713.out] at ho; have n0_ := Aside0.mk (Kd.V_afterv (ok := (fun k_ => (P0_ k_ ∨ w.heap.size ≤ k_) ∧ some k_ ≠ (u3 : Value).ownBlock ∧ some k_ ≠ (.slice (some ad711) t707.length co5 : Value).ownBlock)) (by (with_reducible repeat (first | apply Kd.V_alloc | apply Kd.V_drewN | apply Kd.V_drew)); exact Kd.V_mono HO_0.out (fun _ hk => ⟨⟨hk.1, ⟨hk.2.1, hk.2.2.1⟩⟩, hk.2.2.2⟩)) hg hat); have n1_ := Aside0.mk (Kd.N_afterv (ok := (fun k_ => (P0_ k_ ∨ w.heap.size ≤ k_) ∧ some k_ ≠ (.slice (some ad711) t707.length co5 : Value).ownBlock)) (by (with_reducible repeat (first | apply Kd.N_alloc | apply Kd.N_drewN | apply Kd.N_drew)); exact Kd.N_mono HO_3.out (fun _ hk => ⟨⟨hk.1, hk.2.1⟩, hk.2.2⟩)) hg hat); have n2_ := Aside0.mk (Kd.N_afterv (ok := (fun k_ => (P0_ k_ ∨ w.heap.size ≤ k_) ∧ some k_ ≠ (u3 : Value).ownBlock)) (by (with_reducible repeat (first | apply Kd.N_alloc | apply Kd.N_drewN | apply Kd.N_drew)); exact Kd.N_mono HO_4.out (fun _ hk => ⟨⟨hk.1, hk.2.1⟩, hk.2.2⟩)) hg hat); have n3_ := Aside0.mk (Kd.V_afterv (ok := (fun k_ => (P0_ k_ ∨ w.heap.size ≤ k_) ∧ some k_ ≠ (u3 : Value).ownBlock ∧ some k_ ≠ (.slice (some ad711) t707.length co5 : Value).ownBlock)) (by (with_reducible repeat (first | apply Kd.V_alloc | apply Kd.V_drewN | apply Kd.V_drew)); exact Kd.V_mono HL710_0.out (fun _ hk => ⟨⟨hk.1, ⟨hk.2.1, hk.2.2.1⟩⟩, hk.2.2.2⟩)) hg hat); have n4_ := Aside0.mk (Kd.V_afterv (ok := (fun k_ => (P0_ k_ ∨ w.heap.size ≤ k_) ∧ some k_ ≠ (u3 : Value).ownBlock ∧ some k_ ≠ (.slice (some ad711) t707.length co5 : Value).ownBlock)) (by (with_reducible repeat (first | apply Kd.V_alloc | apply Kd.V_drewN | apply Kd.V_drew)); exact Kd.V_mono HL711_0.out (fun _ hk => ⟨⟨hk.1.1, ⟨hk.1.2.1, hk.2⟩⟩, hk.1.2.2⟩)) hg hat); have n5_ := Aside0.mk (hb); have n6_ := Aside0.mk (ho); clear HO_0; clear HO_3; clear HO_4; clear HL710_0; clear HL711_0; clear HB; clear HO_6; have HO_0 := n0_; have HO_3 := n1_; have HO_4 := n2_; have HL710_0 := n3_; have HL711_0 := n4_; have HB := n5_; have HO715 := n6_; clear n0_ n1_ n2_ n3_ n4_ n5_ n6_; clear ho hb hg hat)))
                        go_roundg k2
                        case measure => have := HK1.out; have := HK2.out; omega
                        case rel => exact ⟨(y713), (wrap64 (x7_2 + 1)), (by first | rfl | (simp; done) | (simp [*]; done)), H', ⟨by have := HK1.out; have := HK2.out; omega⟩, ⟨by (with_reducible repeat (first | apply Kd.V_alloc | apply Kd.V_drewN | apply Kd.V_drew)); exact Kd.V_mono HO_0.out (fun _ hk => ⟨hk.1.1, ⟨hk.1.2.1, ⟨hk.1.2.2, hk.2⟩⟩⟩)⟩, ⟨by (with_reducible repeat (first | apply Kd.N_alloc | apply Kd.N_drewN | apply Kd.N_drew)); exact Kd.N_mono HO_3.out (fun _ hk => ⟨hk.1.1, ⟨hk.1.2, hk.2⟩⟩)⟩, ⟨by (with_reducible repeat (first | apply Kd.N_alloc | apply Kd.N_drewN | apply Kd.N_drew)); exact Kd.N_mono HO_4.out (fun _ hk => ⟨hk.1.1, ⟨hk.1.2, hk.2⟩⟩)⟩, ⟨by (with_reducible repeat (first | apply Kd.R_alloc | apply Kd.R_drewN | apply Kd.R_drew)); exact HO715.out⟩, ⟨by repeat (first | (with_reducible first | exact HB.out | apply below_alloc | apply pw_below_drewN | apply below_drew1) | exact HB.out)⟩⟩
                      · rw [if_neg c12] at H
                        exact absurd H (by simp)
                    · replace c11 := Bool.eq_false_iff.mpr c11
                      subst c11
                      have H1 : (cordonref11_Groups.l1 k2 l0 x3_1 t707 x5_1 x6_2 (wrap64 (x7_2 + 1))) = some r := by rw [if_neg (show ¬ (false = true) by decide)] at H; exact H
                      clear H
                      have H := H1
                      clear H1
                      have H' := Aside0.mk H
                      clear H
                      have p710 : 0 ≤ (x7_2 : Int) := of_decide_eq_true (by first | (with_reducible assumption) | assumption)
                      have q710 : x7_2 < (l0.length : Int) := of_decide_eq_true (by first | (with_reducible assumption) | assumption)
                      obtain ⟨ad710, A710_0, c710_0, e710, hx710_0, hl710_0, hi710_0⟩ := at_L4 (Kd.V_reads' HO_0.out).2.2 x7_2 p710 q710
                      cases e710
                      obtain ⟨ce710, hce710, hMe710, hcc710⟩ := Kd.V_get HO_0.out [] x7_2 p710 (by first | exact q710 | exact of_decide_eq_true (by first | (with_reducible assumption) | assumption) | (have e_ := (Kd.V_reads' HO_0.out).1; omega))
                      obtain ⟨ua710_0, uc710_0, rfl, ul710_0, ge710_0⟩ := Kd.FK_slice_open hMe710
                      have hv710_0 := hcc710 0 _ rfl
                      rw [Nat.add_zero, show ((Kd.slice 33 k33)).sz = 1 from rfl, Nat.mul_one] at hv710_0
                      replace hv710_0 := Option.some.inj (hv710_0.symm.trans hx710_0)
                      injection hv710_0 with hva_ hvn_ hvc_
                      rw [hva_] at ge710_0
                      rw [hvc_] at ul710_0
                      have HL710_0 := Aside0.mk (show Kd.V k33 33 _ w.heap.size _ _ (rd_L4 l0 x7_2) from Kd.V_mk ul710_0 ge710_0)
                      clear hva_ hvn_ hvc_ ge710_0 ul710_0
                      clear hcc710 hce710
                      have HR710_0 := Aside0.mk hi710_0
                      have HC710_0 := Aside0.mk hl710_0
                      clear hi710_0 hl710_0
                      replace p710 := eq_true p710
                      replace q710 := eq_true q710
                      have p711 : 0 ≤ (x5_1 : Int) := of_decide_eq_true (by first | (with_reducible assumption) | assumption)
                      have q711 : x5_1 < (t707.length : Int) := of_decide_eq_true (by first | (with_reducible assumption) | assumption)
                      obtain ⟨ad711, A711_0, c711_0, e711, hx711_0, hl711_0, hi711_0⟩ := at_L4 (Kd.N_reads' HO_4.out).2.2 x5_1 p711 q711
                      cases e711
                      obtain ⟨ce711, hce711, hMe711, hcc711⟩ := Kd.N_get HO_4.out [] x5_1 p711 (by first | exact q711 | exact of_decide_eq_true (by first | (with_reducible assumption) | assumption) | (have e_ := (Kd.N_reads' HO_4.out).1; omega))
                      obtain ⟨ua711_0, uc711_0, rfl, ul711_0, ge711_0⟩ := Kd.FK_slice_open hMe711
                      have hv711_0 := hcc711 0 _ rfl
                      rw [Nat.add_zero, show ((Kd.slice 33 k33)).sz = 1 from rfl, Nat.mul_one] at hv711_0
                      replace hv711_0 := Option.some.inj (hv711_0.symm.trans hx711_0)
                      injection hv711_0 with hva_ hvn_ hvc_
                      rw [hva_] at ge711_0
                      rw [hvc_] at ul711_0
                      have HL711_0 := Aside0.mk (show Kd.V k33 33 _ w.heap.size _ _ (rd_L4 t707 x5_1) from Kd.V_mk ul711_0 ge711_0)
                      clear hva_ hvn_ hvc_ ge711_0 ul711_0
                      clear hcc711 hce711
                      have HR711_0 := Aside0.mk hi711_0
                      have HC711_0 := Aside0.mk hl711_0
                      clear hi711_0 hl711_0
                      replace p711 := eq_true p711
                      replace q711 := eq_true q711
                      go_wp2_with (first | (go_at_call 49; (with_reducible refine (cordonref02_Same.calls k2 _ _ (rd_L4 l0 x7_2) _ _ (rd_L4 t707 x5_1) false _ ?side1 ?side2 ?side3 ?side4 A10.out).mono ?_); (case side1 => repeat (first | exact (by repeat (first | (with_reducible exact HR710_0.out) | (with_reducible refine Kd.C_alloc ?_ _) | (with_reducible refine Kd.C_drewN ?_ _) | (with_reducible refine Kd.C_drew ?_) | exact HR710_0.out)) | (with_reducible refine Kd.C_alloc ?_ _) | (with_reducible refine Kd.C_drewN ?_ _) | (with_reducible refine Kd.C_drew ?_))); (case side2 => exact HC710_0.out); (case side3 => repeat (first | exact (by repeat (first | (with_reducible exact HR711_0.out) | (with_reducible refine Kd.C_alloc ?_ _) | (with_reducible refine Kd.C_drewN ?_ _) | (with_reducible refine Kd.C_drew ?_) | exact HR711_0.out)) | (with_reducible refine Kd.C_alloc ?_ _) | (with_reducible refine Kd.C_drewN ?_ _) | (with_reducible refine Kd.C_drew ?_))); (case side4 => exact HC711_0.out); rintro e w' ⟨rfl, ⟨nd, rfl⟩⟩; (try first | exact ⟨rfl, _, World.drewN_drewN _ _ _⟩ | exact ⟨rfl, _, Eq.trans (World.drewN_drewN _ _ _) (congrArg (World.drewN _) (Nat.add_assoc _ _ _))⟩)))
                      repeat (go_quiet (first | (go_at_call 49; (with_reducible refine (cordonref02_Same.calls k2 _ _ (rd_L4 l0 x7_2) _ _ (rd_L4 t707 x5_1) false _ ?side1 ?side2 ?side3 ?side4 A10.out).mono ?_); (case side1 => repeat (first | exact (by repeat (first | (with_reducible exact HR710_0.out) | (with_reducible refine Kd.C_alloc ?_ _) | (with_reducible refine Kd.C_drewN ?_ _) | (with_reducible refine Kd.C_drew ?_) | exact HR710_0.out)) | (with_reducible refine Kd.C_alloc ?_ _) | (with_reducible refine Kd.C_drewN ?_ _) | (with_reducible refine Kd.C_drew ?_))); (case side2 => exact HC710_0.out); (case side3 => repeat (first | exact (by repeat (first | (with_reducible exact HR711_0.out) | (with_reducible refine Kd.C_alloc ?_ _) | (with_reducible refine Kd.C_drewN ?_ _) | (with_reducible refine Kd.C_drew ?_) | exact HR711_0.out)) | (with_reducible refine Kd.C_alloc ?_ _) | (with_reducible refine Kd.C_drewN ?_ _) | (with_reducible refine Kd.C_drew ?_))); (case side4 => exact HC711_0.out); rintro e w' ⟨rfl, ⟨nd, rfl⟩⟩; (try first | exact ⟨rfl, _, World.drewN_drewN _ _ _⟩ | exact ⟨rfl, _, Eq.trans (World.drewN_drewN _ _ _) (congrArg (World.drewN _) (Nat.add_assoc _ _ _))⟩))); try go_wp2_with (first | (go_at_call 49; (with_reducible refine (cordonref02_Same.calls k2 _ _ (rd_L4 l0 x7_2) _ _ (rd_L4 t707 x5_1) false _ ?side1 ?side2 ?side3 ?side4 A10.out).mono ?_); (case side1 => repeat (first | exact (by repeat (first | (with_reducible exact HR710_0.out) | (with_reducible refine Kd.C_alloc ?_ _) | (with_reducible refine Kd.C_drewN ?_ _) | (with_reducible refine Kd.C_drew ?_) | exact HR710_0.out)) | (with_reducible refine Kd.C_alloc ?_ _) | (with_reducible refine Kd.C_drewN ?_ _) | (with_reducible refine Kd.C_drew ?_))); (case side2 => exact HC710_0.out); (case side3 => repeat (first | exact (by repeat (first | (with_reducible exact HR711_0.out) | (with_reducible refine Kd.C_alloc ?_ _) | (with_reducible refine Kd.C_drewN ?_ _) | (with_reducible refine Kd.C_drew ?_) | exact HR711_0.out)) | (with_reducible refine Kd.C_alloc ?_ _) | (with_reducible refine Kd.C_drewN ?_ _) | (with_reducible refine Kd.C_drew ?_))); (case side4 => exact HC711_0.out); rintro e w' ⟨rfl, ⟨nd, rfl⟩⟩; (try first | exact ⟨rfl, _, World.drewN_drewN _ _ _⟩ | exact ⟨rfl, _, Eq.trans (World.drewN_drewN _ _ _) (congrArg (World.drewN _) (Nat.add_assoc _ _ _))⟩))))
                      go_roundg k2
                      case measure => have := HK1.out; have := HK2.out; omega
                      case rel => exact ⟨(x6_2), (wrap64 (x7_2 + 1)), (by first | rfl | (simp; done) | (simp [*]; done)), H', ⟨by have := HK1.out; have := HK2.out; omega⟩, ⟨by (with_reducible repeat (first | apply Kd.V_alloc | apply Kd.V_drewN | apply Kd.V_drew)); exact HO_0.out⟩, ⟨by (with_reducible repeat (first | apply Kd.N_alloc | apply Kd.N_drewN | apply Kd.N_drew)); exact HO_3.out⟩, ⟨by (with_reducible repeat (first | apply Kd.N_alloc | apply Kd.N_drewN | apply Kd.N_drew)); exact HO_4.out⟩, ⟨by (with_reducible repeat (first | apply Kd.R_alloc | apply Kd.R_drewN | apply Kd.R_drew)); exact HO_6.out⟩, ⟨by repeat (first | (with_reducible first | exact HB.out | apply below_alloc | apply pw_below_drewN | apply below_drew1) | exact HB.out)⟩⟩
                  · rw [if_neg c9] at H
                    exact absurd H (by simp)
                · rw [if_neg c8] at H
                  exact absurd H (by simp)
              · rw [if_neg c7] at H
                exact absurd H (by simp)
            · rw [if_neg c6] at H
              have c6b0 : decide (x7_2 < (l0.length : Int)) = false := decide_eq_false c6
              clear c6
              by_cases c14 : x3_1.length < 5864062014805
              · rw [if_pos c14] at H
                have LMc14 := Aside0.mk c14
                clear c14
                obtain ⟨y716, hy716⟩ : ∃ y_ : List (List Int), y_ = (x3_1 ++ [x6_2]) := ⟨_, rfl⟩
                replace H : (cordonref11_Groups.l0 k2 l0 y716 t707 (wrap64 (x5_1 + 1))) = some r := by first | (rw [hy716]; with_reducible exact H) | (have H2_ := (Option.bind_some _ _).symm.trans H; rw [hy716]; with_reducible exact H2_) | (have H2_ := (Option.bind_some _ _).symm.trans H; with_reducible exact H2_) | with_reducible exact H | (rw [hy716]; exact H) | exact H
                have Ny716 := Aside0.mk hy716
                clear hy716
                have H' := Aside0.mk H
                clear H
                obtain ⟨Ao16, co16, eo16⟩ := Kd.R_slice HO_6.out
                subst eo16
                go_wp2_with (first | ((with_reducible refine gate_builtin (b := .append) (xs := #[.tmp 35, .tmp 37]) rfl ?_); at_builtin; refine Kd.N_append (Kd.slice 3 (Kd.int .i64)) (w0 := w) w.heap.size rfl (.tmp 35) (.tmp 37) 66 23 (.slice none 0 0) 24 rfl Try.underlying66 info23 rfl (by decide) (by omega) u3 x3_1 x6_2 [.slice Ao16 x6_2.length co16] (fun k_ => (P0_ k_ ∨ w.heap.size ≤ k_) ∧ some k_ ≠ (.slice Ao5 t707.length co5 : Value).ownBlock) (fun k_ => ((fun k_ => (P0_ k_ ∨ w.heap.size ≤ k_) ∧ some k_ ≠ (.slice Ao5 t707.length co5 : Value).ownBlock)) k_ ∧ some k_ ≠ (u3 : Value).ownBlock) rfl rfl ?aP (fun _ hk => hk) ?aF ?aO ?aB ?aS ?aL ?_; (case aP => exact (Kd.FK_slice_mk (Kd.R_reads' (Kd.R_mono (ok' := (fun k_ => ((fun k_ => (P0_ k_ ∨ w.heap.size ≤ k_) ∧ some k_ ≠ (.slice Ao5 t707.length co5 : Value).ownBlock)) k_ ∧ some k_ ≠ (u3 : Value).ownBlock)) (Kd.R_apart' (Kd.R_apart' (HO_6.out) (Kd.N_typed HO_4.out) (by decide)) (Kd.N_typed HO_3.out) (by decide)) (fun k_ hk => ⟨⟨(.inr (hk.1.1)), hk.1.2⟩, hk.2⟩))).2.1 (Kd.R_F (Kd.R_mono (ok' := (fun k_ => ((fun k_ => (P0_ k_ ∨ w.heap.size ≤ k_) ∧ some k_ ≠ (.slice Ao5 t707.length co5 : Value).ownBlock)) k_ ∧ some k_ ≠ (u3 : Value).ownBlock)) (Kd.R_apart' (Kd.R_apart' (HO_6.out) (Kd.N_typed HO_4.out) (by decide)) (Kd.N_typed HO_3.out) (by decide)) (fun k_ hk => ⟨⟨(.inr (hk.1.1)), hk.1.2⟩, hk.2⟩))))); (case aB => exact (by repeat (first | (with_reducible first | exact HB.out | apply below_alloc | apply pw_below_drewN | apply below_drew1) | exact HB.out))); (case aF => exact (fun k_ hk => ⟨(.inr (Nat.le_trans (below_size (by repeat (first | (with_reducible first | exact HB.out | apply below_alloc | apply pw_below_drewN | apply below_drew1) | exact HB.out))) hk)), Kd.fresh' (Kd.N_lt (by (with_reducible repeat (first | apply Kd.N_alloc | apply Kd.N_drewN | apply Kd.N_drew)); exact HO_4.out)) k_ hk⟩)); (case aO => exact (by (with_reducible repeat (first | apply Kd.N_alloc | apply Kd.N_drewN | apply Kd.N_drew)); exact Kd.N_mono HO_3.out (fun _ hk => ⟨hk.1, hk.2.1⟩))); (case aS => exact (below_size (by repeat (first | (with_reducible first | exact HB.out | apply below_alloc | apply pw_below_drewN | apply below_drew1) | exact HB.out)))); (case aL => have := LMc14.out; omega); intro v717 w15 ho hb hg hat; rw [← Ny716.out] at ho; have n0_ := Aside0.mk (Kd.V_afterv (ok := (fun k_ => (P0_ k_ ∨ w.heap.size ≤ k_) ∧ some k_ ≠ (.slice Ao5 t707.length co5 : Value).ownBlock ∧ some k_ ≠ (.slice Ao16 x6_2.length co16 : Value).ownBlock)) (by (with_reducible repeat (first | apply Kd.V_alloc | apply Kd.V_drewN | apply Kd.V_drew)); exact Kd.V_mono HO_0.out (fun _ hk => ⟨⟨hk.1, ⟨hk.2.2.1, hk.2.2.2⟩⟩, hk.2.1⟩)) hg hat); have n1_ := Aside0.mk (Kd.N_afterv (ok := (fun k_ => (P0_ k_ ∨ w.heap.size ≤ k_) ∧ some k_ ≠ (.slice Ao16 x6_2.length co16 : Value).ownBlock)) (by (with_reducible repeat (first | apply Kd.N_alloc | apply Kd.N_drewN | apply Kd.N_drew)); exact Kd.N_mono HO_4.out (fun _ hk => ⟨⟨hk.1, hk.2.2⟩, hk.2.1⟩)) hg hat); have n2_ := Aside0.mk (hb); have n3_ := Aside0.mk (ho); clear HO_0; clear HO_4; clear HB; clear HO_3; clear HO_6; have HO_0 := n0_; have HO_4 := n1_; have HB := n2_; have HO718 := n3_; clear n0_ n1_ n2_ n3_; clear ho hb hg hat))
                repeat (go_quiet (first | ((with_reducible refine gate_builtin (b := .append) (xs := #[.tmp 35, .tmp 37]) rfl ?_); at_builtin; refine Kd.N_append (Kd.slice 3 (Kd.int .i64)) (w0 := w) w.heap.size rfl (.tmp 35) (.tmp 37) 66 23 (.slice none 0 0) 24 rfl Try.underlying66 info23 rfl (by decide) (by omega) u3 x3_1 x6_2 [.slice Ao16 x6_2.length co16] (fun k_ => (P0_ k_ ∨ w.heap.size ≤ k_) ∧ some k_ ≠ (.slice Ao5 t707.length co5 : Value).ownBlock) (fun k_ => ((fun k_ => (P0_ k_ ∨ w.heap.size ≤ k_) ∧ some k_ ≠ (.slice Ao5 t707.length co5 : Value).ownBlock)) k_ ∧ some k_ ≠ (u3 : Value).ownBlock) rfl rfl ?aP (fun _ hk => hk) ?aF ?aO ?aB ?aS ?aL ?_; (case aP => exact (Kd.FK_slice_mk (Kd.R_reads' (Kd.R_mono (ok' := (fun k_ => ((fun k_ => (P0_ k_ ∨ w.heap.size ≤ k_) ∧ some k_ ≠ (.slice Ao5 t707.length co5 : Value).ownBlock)) k_ ∧ some k_ ≠ (u3 : Value).ownBlock)) (Kd.R_apart' (Kd.R_apart' (HO_6.out) (Kd.N_typed HO_4.out) (by decide)) (Kd.N_typed HO_3.out) (by decide)) (fun k_ hk => ⟨⟨(.inr (hk.1.1)), hk.1.2⟩, hk.2⟩))).2.1 (Kd.R_F (Kd.R_mono (ok' := (fun k_ => ((fun k_ => (P0_ k_ ∨ w.heap.size ≤ k_) ∧ some k_ ≠ (.slice Ao5 t707.length co5 : Value).ownBlock)) k_ ∧ some k_ ≠ (u3 : Value).ownBlock)) (Kd.R_apart' (Kd.R_apart' (HO_6.out) (Kd.N_typed HO_4.out) (by decide)) (Kd.N_typed HO_3.out) (by decide)) (fun k_ hk => ⟨⟨(.inr (hk.1.1)), hk.1.2⟩, hk.2⟩))))); (case aB => exact (by repeat (first | (with_reducible first | exact HB.out | apply below_alloc | apply pw_below_drewN | apply below_drew1) | exact HB.out))); (case aF => exact (fun k_ hk => ⟨(.inr (Nat.le_trans (below_size (by repeat (first | (with_reducible first | exact HB.out | apply below_alloc | apply pw_below_drewN | apply below_drew1) | exact HB.out))) hk)), Kd.fresh' (Kd.N_lt (by (with_reducible repeat (first | apply Kd.N_alloc | apply Kd.N_drewN | apply Kd.N_drew)); exact HO_4.out)) k_ hk⟩)); (case aO => exact (by (with_reducible repeat (first | apply Kd.N_alloc | apply Kd.N_drewN | apply Kd.N_drew)); exact Kd.N_mono HO_3.out (fun _ hk => ⟨hk.1, hk.2.1⟩))); (case aS => exact (below_size (by repeat (first | (with_reducible first | exact HB.out | apply below_alloc | apply pw_below_drewN | apply below_drew1) | exact HB.out)))); (case aL => have := LMc14.out; omega); intro v717 w15 ho hb hg hat; rw [← Ny716.out] at ho; have n0_ := Aside0.mk (Kd.V_afterv (ok := (fun k_ => (P0_ k_ ∨ w.heap.size ≤ k_) ∧ some k_ ≠ (.slice Ao5 t707.length co5 : Value).ownBlock ∧ some k_ ≠ (.slice Ao16 x6_2.length co16 : Value).ownBlock)) (by (with_reducible repeat (first | apply Kd.V_alloc | apply Kd.V_drewN | apply Kd.V_drew)); exact Kd.V_mono HO_0.out (fun _ hk => ⟨⟨hk.1, ⟨hk.2.2.1, hk.2.2.2⟩⟩, hk.2.1⟩)) hg hat); have n1_ := Aside0.mk (Kd.N_afterv (ok := (fun k_ => (P0_ k_ ∨ w.heap.size ≤ k_) ∧ some k_ ≠ (.slice Ao16 x6_2.length co16 : Value).ownBlock)) (by (with_reducible repeat (first | apply Kd.N_alloc | apply Kd.N_drewN | apply Kd.N_drew)); exact Kd.N_mono HO_4.out (fun _ hk => ⟨⟨hk.1, hk.2.2⟩, hk.2.1⟩)) hg hat); have n2_ := Aside0.mk (hb); have n3_ := Aside0.mk (ho); clear HO_0; clear HO_4; clear HB; clear HO_3; clear HO_6; have HO_0 := n0_; have HO_4 := n1_; have HB := n2_; have HO718 := n3_; clear n0_ n1_ n2_ n3_; clear ho hb hg hat)); try go_wp2_with (first | ((with_reducible refine gate_builtin (b := .append) (xs := #[.tmp 35, .tmp 37]) rfl ?_); at_builtin; refine Kd.N_append (Kd.slice 3 (Kd.int .i64)) (w0 := w) w.heap.size rfl (.tmp 35) (.tmp 37) 66 23 (.slice none 0 0) 24 rfl Try.underlying66 info23 rfl (by decide) (by omega) u3 x3_1 x6_2 [.slice Ao16 x6_2.length co16] (fun k_ => (P0_ k_ ∨ w.heap.size ≤ k_) ∧ some k_ ≠ (.slice Ao5 t707.length co5 : Value).ownBlock) (fun k_ => ((fun k_ => (P0_ k_ ∨ w.heap.size ≤ k_) ∧ some k_ ≠ (.slice Ao5 t707.length co5 : Value).ownBlock)) k_ ∧ some k_ ≠ (u3 : Value).ownBlock) rfl rfl ?aP (fun _ hk => hk) ?aF ?aO ?aB ?aS ?aL ?_; (case aP => exact (Kd.FK_slice_mk (Kd.R_reads' (Kd.R_mono (ok' := (fun k_ => ((fun k_ => (P0_ k_ ∨ w.heap.size ≤ k_) ∧ some k_ ≠ (.slice Ao5 t707.length co5 : Value).ownBlock)) k_ ∧ some k_ ≠ (u3 : Value).ownBlock)) (Kd.R_apart' (Kd.R_apart' (HO_6.out) (Kd.N_typed HO_4.out) (by decide)) (Kd.N_typed HO_3.out) (by decide)) (fun k_ hk => ⟨⟨(.inr (hk.1.1)), hk.1.2⟩, hk.2⟩))).2.1 (Kd.R_F (Kd.R_mono (ok' := (fun k_ => ((fun k_ => (P0_ k_ ∨ w.heap.size ≤ k_) ∧ some k_ ≠ (.slice Ao5 t707.length co5 : Value).ownBlock)) k_ ∧ some k_ ≠ (u3 : Value).ownBlock)) (Kd.R_apart' (Kd.R_apart' (HO_6.out) (Kd.N_typed HO_4.out) (by decide)) (Kd.N_typed HO_3.out) (by decide)) (fun k_ hk => ⟨⟨(.inr (hk.1.1)), hk.1.2⟩, hk.2⟩))))); (case aB => exact (by repeat (first | (with_reducible first | exact HB.out | apply below_alloc | apply pw_below_drewN | apply below_drew1) | exact HB.out))); (case aF => exact (fun k_ hk => ⟨(.inr (Nat.le_trans (below_size (by repeat (first | (with_reducible first | exact HB.out | apply below_alloc | apply pw_below_drewN | apply below_drew1) | exact HB.out))) hk)), Kd.fresh' (Kd.N_lt (by (with_reducible repeat (first | apply Kd.N_alloc | apply Kd.N_drewN | apply Kd.N_drew)); exact HO_4.out)) k_ hk⟩)); (case aO => exact (by (with_reducible repeat (first | apply Kd.N_alloc | apply Kd.N_drewN | apply Kd.N_drew)); exact Kd.N_mono HO_3.out (fun _ hk => ⟨hk.1, hk.2.1⟩))); (case aS => exact (below_size (by repeat (first | (with_reducible first | exact HB.out | apply below_alloc | apply pw_below_drewN | apply below_drew1) | exact HB.out)))); (case aL => have := LMc14.out; omega); intro v717 w15 ho hb hg hat; rw [← Ny716.out] at ho; have n0_ := Aside0.mk (Kd.V_afterv (ok := (fun k_ => (P0_ k_ ∨ w.heap.size ≤ k_) ∧ some k_ ≠ (.slice Ao5 t707.length co5 : Value).ownBlock ∧ some k_ ≠ (.slice Ao16 x6_2.length co16 : Value).ownBlock)) (by (with_reducible repeat (first | apply Kd.V_alloc | apply Kd.V_drewN | apply Kd.V_drew)); exact Kd.V_mono HO_0.out (fun _ hk => ⟨⟨hk.1, ⟨hk.2.2.1, hk.2.2.2⟩⟩, hk.2.1⟩)) hg hat); have n1_ := Aside0.mk (Kd.N_afterv (ok := (fun k_ => (P0_ k_ ∨ w.heap.size ≤ k_) ∧ some k_ ≠ (.slice Ao16 x6_2.length co16 : Value).ownBlock)) (by (with_reducible repeat (first | apply Kd.N_alloc | apply Kd.N_drewN | apply Kd.N_drew)); exact Kd.N_mono HO_4.out (fun _ hk => ⟨⟨hk.1, hk.2.2⟩, hk.2.1⟩)) hg hat); have n2_ := Aside0.mk (hb); have n3_ := Aside0.mk (ho); clear HO_0; clear HO_4; clear HB; clear HO_3; clear HO_6; have HO_0 := n0_; have HO_4 := n1_; have HB := n2_; have HO718 := n3_; clear n0_ n1_ n2_ n3_; clear ho hb hg hat)))
                go_roundg k2
                case measure => have := HK1.out; have := HK2.out; omega
                case rel => exact ⟨(y716), (wrap64 (x5_1 + 1)), (by first | rfl | (simp; done) | (simp [*]; done)), H', ⟨by have := HK1.out; have := HK2.out; omega⟩, ⟨by (with_reducible repeat (first | apply Kd.V_alloc | apply Kd.V_drewN | apply Kd.V_drew)); exact Kd.V_mono HO_0.out (fun _ hk => ⟨hk.1.1, ⟨hk.2, hk.1.2.1⟩⟩)⟩, ⟨by (with_reducible repeat (first | apply Kd.N_alloc | apply Kd.N_drewN | apply Kd.N_drew)); exact HO718.out⟩, ⟨by (with_reducible repeat (first | apply Kd.N_alloc | apply Kd.N_drewN | apply Kd.N_drew)); exact Kd.N_mono HO_4.out (fun _ hk => ⟨hk.1.1, hk.2⟩)⟩, ⟨by repeat (first | (with_reducible first | exact HB.out | apply below_alloc | apply pw_below_drewN | apply below_drew1) | exact HB.out)⟩⟩
              · rw [if_neg c14] at H
                exact absurd H (by simp)
      · rw [if_neg c4] at H
        have c4b0 : decide (x5_1 < (t707.length : Int)) = false := decide_eq_false c4
        clear c4
        obtain rfl := Option.some.inj H
        obtain ⟨Ao17, co17, eo17⟩ := Kd.N_slice HO_4.out
        subst eo17
        go_wp2
        repeat (go_quiet (fail); try go_wp2)
        go_ret
        exact ⟨_, by first | rfl | (simp [errW_none, errW_some] <;> rfl) | (simp [*, errW_none, errW_some] <;> rfl), by (with_reducible repeat (first | apply Kd.N_alloc | apply Kd.N_drewN | apply Kd.N_drew)); exact Kd.N_mono HO_3.out (fun _ hk => hk.1), by repeat (first | (with_reducible first | exact HB.out | apply below_alloc | apply pw_below_drewN | apply below_drew1) | exact HB.out)⟩
end Go.Proofs.Ythghflgmeepnlaa.Pa
end
section
namespace Go.Proofs.Ythghflgmeepnlaa.Pa
open Go.RowKit Go.Proofs.YthghflgmeepnlaaW.PrintWords Go.Proofs.YthghflgmeepnlaaW.PrintLast Go.Proofs.YthghflgmeepnlaaW.PrintMore
set_option linter.unusedVariables false
set_option linter.unusedSimpArgs false
/-- The places of a key among the first i. -/
def plc (KS : List (List UInt8)) (K : List UInt8) (i : Nat) : List Int := ((List.range i).filter (fun (m : Nat) => decide (KS[m]? = some K))).map (fun (m : Nat) => (m : Int))
theorem plc_zero (KS : List (List UInt8)) (K : List UInt8) : plc KS K 0 = [] := rfl
theorem plc_step (KS : List (List UInt8)) (K : List UInt8) (i : Nat) : plc KS K (i + 1) = plc KS K i ++ (if KS[i]? = some K then [(i : Int)] else []) := by
  unfold plc
  rw [List.range_succ, List.filter_append, List.map_append]
  by_cases h : KS[i]? = some K <;> simp [h]
theorem plc_len (KS : List (List UInt8)) (K : List UInt8) (i : Nat) : (plc KS K i).length ≤ i := by
  unfold plc
  rw [List.length_map]
  have := List.length_filter_le (fun (m : Nat) => decide (KS[m]? = some K)) (List.range i)
  simpa using this
theorem plc_none {KS : List (List UInt8)} {K : List UInt8} : ∀ (i : Nat), K ∉ KS.take i → plc KS K i = []
  | 0, _ => rfl
  | i + 1, h => by
    rw [plc_step, plc_none i (fun q => h (List.mem_of_mem_take (i := i) (by rw [List.take_take, Nat.min_eq_left (Nat.le_succ i)]; exact q)))]
    rw [if_neg (fun q => h ?_)]
    · rfl
    · obtain ⟨h1, h2⟩ := List.getElem?_eq_some_iff.1 q
      rw [List.take_add_one, List.getElem?_eq_getElem h1, h2]
      simp
theorem map_set_idx {α β : Type} [BEq α] [LawfulBEq α] (f f' : α → β) (k : α) : ∀ (ks : List α), ks.Nodup → k ∈ ks → (∀ x ∈ ks, x ≠ k → f' x = f x) → (ks.map f).set (ks.idxOf k) (f' k) = ks.map f'
  | [], _, h, _ => by simp at h
  | x :: ks, hn, hk, hf => by
    have hn' := List.nodup_cons.1 hn
    by_cases e : x = k
    · subst e
      rw [List.idxOf_cons_self]
      simp only [List.map_cons, List.set_cons_zero]
      congr 1
      exact List.map_congr_left (fun y hy => (hf y (List.mem_cons_of_mem _ hy) (fun q => hn'.1 (q ▸ hy))).symm)
    · have hk' : k ∈ ks := by
        rcases List.mem_cons.1 hk with q | q
        · exact absurd q.symm e
        · exact q
      rw [List.idxOf_cons, show (x == k) = false from beq_eq_false_iff_ne.mpr e]
      simp only [cond_false, List.map_cons, List.set_cons_succ]
      rw [map_set_idx f f' k ks hn'.2 hk' (fun y hy => hf y (List.mem_cons_of_mem _ hy)), hf x (by simp) e]
theorem getD_map_idx {α β : Type} [BEq α] [LawfulBEq α] (f : α → β) (d : β) (k : α) (ks : List α) (h : k ∈ ks) : (ks.map f).getD (ks.idxOf k) d = f k := by
  have hq : ks.idxOf k < ks.length := List.idxOf_lt_length_of_mem h
  rw [List.getD_eq_getElem?_getD, List.getElem?_map, List.getElem?_eq_getElem hq, List.getElem_idxOf]; rfl
theorem grp_go (l : List (List S33)) (d : Nat) : ∀ (i : Nat) (ks seen : List (List UInt8)), i + d = l.length → ks.Nodup → (∀ K, K ∈ ks ↔ K ∈ (keysOf l).take i) → (∀ K, K ∈ seen ↔ K ∈ ks) →
    (grpGo i (ks, ks.map (fun K => plc (keysOf l) K i)) ((keysOf l).drop i)).2 = (ks ++ (keepL (fun _ => true) seen (l.drop i)).map kb).map (fun K => plc (keysOf l) K l.length) := by
  induction d with
  | zero =>
    intro i ks seen hi hn hm hs
    have hl : (keysOf l).length = l.length := by unfold keysOf; simp
    rw [List.drop_eq_nil_of_le (by omega), List.drop_eq_nil_of_le (by omega)]
    show ks.map (fun K => plc (keysOf l) K i) = _
    rw [show i = l.length by omega]
    simp [keepL]
  | succ d ih =>
    intro i ks seen hi hn hm hs
    have hil : i < l.length := by omega
    have hd := keysOf_drop hil
    have hk : (keysOf l)[i]? = some (kb (rd_L4 l (i : Int))) := by
      have h1 : ((keysOf l).drop i)[0]? = some (kb (rd_L4 l (i : Int))) := by
        rw [show (keysOf l).drop i = keysOf (l.drop i) by unfold keysOf; rw [List.map_drop], hd]; rfl
      rw [List.getElem?_drop] at h1
      simpa using h1
    obtain ⟨K0, hK0⟩ : ∃ K, K = kb (rd_L4 l (i : Int)) := ⟨_, rfl⟩
    rw [← hK0] at hk hd
    have hd2 : (keysOf l).drop i = K0 :: (keysOf l).drop (i + 1) := by
      have h1 : (keysOf l).drop i = keysOf (l.drop i) := by unfold keysOf; rw [List.map_drop]
      have h2 : (keysOf l).drop (i + 1) = keysOf (l.drop (i + 1)) := by unfold keysOf; rw [List.map_drop]
      rw [h1, hd, h2]
    have htk : (keysOf l).take (i + 1) = (keysOf l).take i ++ [K0] := by rw [List.take_add_one, hk]; rfl
    rw [hd2]
    show (grpGo (i + 1) (grpStep (ks, ks.map (fun K => plc (keysOf l) K i)) K0 i) ((keysOf l).drop (i + 1))).2 = _
    rw [drop_rdN hil, keepL]
    have hcnt : seen.count (ky (bytesOfRow (rd_L4 l (i : Int)))) = 0 ↔ K0 ∉ ks := by
      rw [List.count_eq_zero, ← hs K0, hK0]
    by_cases c : K0 ∈ ks
    · rw [if_neg (fun q => (hcnt.1 q.1) c)]
      unfold grpStep
      rw [if_pos c]
      have e1 : (ks.map (fun K => plc (keysOf l) K i)).set (ks.idxOf K0) ((ks.map (fun K => plc (keysOf l) K i)).getD (ks.idxOf K0) [] ++ [(i : Int)]) = ks.map (fun K => plc (keysOf l) K (i + 1)) := by
        rw [getD_map_idx (fun K => plc (keysOf l) K i) [] K0 ks c]
        have h1 := map_set_idx (fun K => plc (keysOf l) K i) (fun K => plc (keysOf l) K (i + 1)) K0 ks hn c (fun x _ hx => by
          rw [plc_step, hk, if_neg (fun q => hx (Option.some.inj q).symm), List.append_nil])
        have h2 : plc (keysOf l) K0 (i + 1) = plc (keysOf l) K0 i ++ [(i : Int)] := by rw [plc_step, if_pos hk]
        simp only [h2] at h1
        exact h1
      simp only [e1]
      exact ih (i + 1) ks (ky (bytesOfRow (rd_L4 l (i : Int))) :: seen) (by omega) hn (fun K => by
        rw [htk, List.mem_append, ← hm K, List.mem_singleton]
        exact ⟨.inl, fun q => q.elim id (fun q => q ▸ c)⟩) (fun K => by
        rw [List.mem_cons, hs K]
        refine ⟨fun q => q.elim (fun q => ?_) id, .inr⟩
        have : K = K0 := by rw [hK0]; exact q
        exact this ▸ c)
    · rw [if_pos ⟨hcnt.2 c, rfl⟩]
      unfold grpStep
      rw [if_neg c]
      have e1 : ks.map (fun K => plc (keysOf l) K i) ++ [[(i : Int)]] = (ks ++ [K0]).map (fun K => plc (keysOf l) K (i + 1)) := by
        rw [List.map_append]
        congr 1
        · refine List.map_congr_left (fun K hK => ?_)
          rw [plc_step, hk, if_neg (fun q => by
            have e0 : K0 = K := Option.some.inj q
            exact c (e0 ▸ hK)), List.append_nil]
        · show [[(i : Int)]] = [plc (keysOf l) K0 (i + 1)]
          rw [plc_step, if_pos hk, plc_none i (fun q => c ((hm K0).2 q))]; rfl
      simp only [e1]
      rw [ih (i + 1) (ks ++ [K0]) (ky (bytesOfRow (rd_L4 l (i : Int))) :: seen) (by omega) (by
          rw [List.nodup_append]
          refine ⟨hn, by simp, fun x hx y hy => ?_⟩
          rw [List.mem_singleton.1 hy]
          exact fun q => c (q ▸ hx)) (fun K => by rw [htk, List.mem_append, List.mem_append, hm K]) (fun K => by
          rw [List.mem_cons, hs K, List.mem_append, List.mem_singleton, or_comm, hK0])]
      congr 1
      rw [List.append_assoc, List.map_cons, hK0]; rfl
theorem groups_plc (l : List (List S33)) : groupsL l = (distinctL l).map (fun r => plc (keysOf l) (kb r) l.length) := by
  unfold groupsL
  have := grp_go l l.length 0 [] [] (by omega) (by simp) (by simp) (by simp)
  rw [List.map_nil] at this
  rw [List.drop_zero, List.drop_zero] at this
  rw [this, List.nil_append, List.map_map]
  rfl
theorem rgroups_l1 (l : List (List S33)) (hg : ∀ r ∈ l, gR r) (hl : l.length ≤ 1000) (D : List (List S33)) (i : Nat) (hi : i < D.length) (hD : gR (rd_L4 D (i : Int))) (hDl : D.length ≤ 1000) (x3 : List (List Int)) (hx3 : x3.length ≤ 1000) (F : Nat) (hF : 61 ≤ F) (d : Nat) :
    ∀ m, m + d = l.length → cordonref11_Groups.l1 (F + d + 1) l x3 D (i : Int) (plc (keysOf l) (kb (rd_L4 D (i : Int))) m) (m : Int) = cordonref11_Groups.l0 F l (x3 ++ [plc (keysOf l) (kb (rd_L4 D (i : Int))) l.length]) D ((i + 1 : Nat) : Int) := by
  induction d with
  | zero =>
    intro m hm
    rw [Nat.add_zero, cordonref11_Groups.l1, if_neg (by omega), if_pos (by omega), wrapN i (by omega), show m = l.length by omega]
  | succ d ih =>
    intro m hm
    have hml : m < l.length := by omega
    have hp := plc_len (keysOf l) (kb (rd_L4 D (i : Int))) m
    have hk : (keysOf l)[m]? = some (kb (rd_L4 l (m : Int))) := by
      have h1 : ((keysOf l).drop m)[0]? = some (kb (rd_L4 l (m : Int))) := by
        rw [show (keysOf l).drop m = keysOf (l.drop m) by unfold keysOf; rw [List.map_drop], keysOf_drop hml]; rfl
      rw [List.getElem?_drop] at h1
      simpa using h1
    have hst := plc_step (keysOf l) (kb (rd_L4 D (i : Int))) m
    rw [show F + (d + 1) + 1 = (F + d + 1) + 1 by omega, cordonref11_Groups.l1, if_pos (by omega), if_pos (by omega), if_pos (by omega), if_pos (by omega), show F + d + 1 = (F + d + 1 - 61) + 61 by omega, same_key (hg _ (rd_in hml)) hD, Option.bind_some, wrapN m (by omega), show F + d + 1 - 61 + 61 = F + d + 1 by omega]
    by_cases c : kb (rd_L4 l (m : Int)) = kb (rd_L4 D (i : Int))
    · rw [if_pos (by simp [c]), if_pos (by omega)]
      rw [hk, if_pos (by rw [c])] at hst
      rw [← hst]
      exact ih (m + 1) (by omega)
    · rw [if_neg (by simp [c])]
      rw [hk, if_neg (fun q => c (Option.some.inj q)), List.append_nil] at hst
      rw [← hst]
      exact ih (m + 1) (by omega)
theorem rgroups_l0 (l : List (List S33)) (hg : ∀ r ∈ l, gR r) (hl : l.length ≤ 1000) (D : List (List S33)) (hD : ∀ r ∈ D, gR r) (hDl : D.length ≤ 1000) (e : Nat) : ∀ (i : Nat) (x3 : List (List Int)), i + e = D.length → x3.length = i →
    cordonref11_Groups.l0 (62 + e * (l.length + 2)) l x3 D (i : Int) = some (x3 ++ (D.drop i).map (fun r => plc (keysOf l) (kb r) l.length)) := by
  induction e with
  | zero =>
    intro i x3 hi hx
    rw [Nat.zero_mul, Nat.add_zero, cordonref11_Groups.l0, if_neg (by omega), List.drop_eq_nil_of_le (by omega)]
    simp
  | succ e ih =>
    intro i x3 hi hx
    have hid : i < D.length := by omega
    rw [show 62 + (e + 1) * (l.length + 2) = (62 + e * (l.length + 2) + l.length + 1) + 1 by rw [Nat.succ_mul]; omega, cordonref11_Groups.l0, if_pos (by omega)]
    have h1 := rgroups_l1 l hg hl D i hid (hD _ (rd_in hid)) hDl x3 (by omega) (62 + e * (l.length + 2)) (by omega) l.length 0 (by omega)
    rw [plc_zero] at h1
    rw [show ((0 : Int)) = ((0 : Nat) : Int) from rfl, h1, ih (i + 1) _ (by omega) (by simp; omega), drop_rdN hid, List.map_cons]
    simp
theorem rgroups_is (l : List (List S33)) (hg : gL l) : ∃ k, cordonref11_Groups.f k l = some (groupsL l) := by
  have hl : l.length ≤ 1000 := by have := hg.1; omega
  have hDl : (distinctL l).length ≤ l.length := keepL_len _ l _
  have hD : ∀ r ∈ distinctL l, gR r := fun r hr => hg.2 r (keepL_sub _ l _ r hr)
  refine ⟨(62 + (distinctL l).length * (l.length + 2)) + (l.length + l.length + 63), ?_⟩
  unfold cordonref11_Groups.f
  have h1 := dist_is l hg.2 (by omega) (62 + (distinctL l).length * (l.length + 2))
  rw [show (62 + (distinctL l).length * (l.length + 2)) + (l.length + l.length + 63) = (62 + (distinctL l).length * (l.length + 2)) + l.length + l.length + 63 by omega, h1, Option.bind_some]
  have h2 := rgroups_l0 l hg.2 hl (distinctL l) hD (by omega) (distinctL l).length 0 [] (by omega) rfl
  have h3 : ∀ c, cordonref11_Groups.l0 (62 + (distinctL l).length * (l.length + 2) + c) l [] (distinctL l) 0 = some (groupsL l) := by
    intro c
    induction c with
    | zero =>
      rw [groups_plc]
      simpa using h2
    | succ c ih => exact (cordonref11_Groups.mono_l _).1 _ _ _ _ _ ih
  rw [show 62 + (distinctL l).length * (l.length + 2) + l.length + l.length + 63 = 62 + (distinctL l).length * (l.length + 2) + (l.length + l.length + 63) by omega]
  exact h3 _
theorem ints_l0 (g : List Int) (hl : g.length ≤ 1000000) (d : Nat) : ∀ i : Nat, i + d = g.length → cordonref03_Ints.l0 (d + 1) g g (i : Int) = some true := by
  induction d with
  | zero =>
    intro i hi
    rw [cordonref03_Ints.l0, if_neg (by omega)]
  | succ d ih =>
    intro i hi
    rw [cordonref03_Ints.l0, if_pos (by omega), if_pos (by omega), if_pos (by omega), if_pos rfl, wrapN i (by omega)]
    exact ih (i + 1) (by omega)
theorem ints_self (g : List Int) (hl : g.length ≤ 1000000) : ∃ k, cordonref03_Ints.f k g g = some true := by
  refine ⟨g.length + 1, ?_⟩
  unfold cordonref03_Ints.f
  rw [if_pos rfl]
  exact ints_l0 g hl g.length 0 (by omega)
end Go.Proofs.Ythghflgmeepnlaa.Pa
end
section
namespace Go.Proofs.Ythghflgmeepnlaa.Pa
open Go.RowKit Go.Proofs.YthghflgmeepnlaaW.PrintWords Go.Proofs.YthghflgmeepnlaaW.PrintLast Go.Proofs.YthghflgmeepnlaaW.PrintMore
set_option linter.unusedVariables false
set_option linter.unusedSimpArgs false
theorem eqA74 (d : Nat) (w : World) (x0 y0 x1 y1 : Int) :
    (Op.equalIn (d + 2) 74 (.agg #[.int .i64 x0, .int .i64 x1]) (.agg #[.int .i64 y0, .int .i64 y1])).run Try.prog w = .ok (x0 == y0 && x1 == y1) w := by
  obtain ⟨i, hi, _, _, _⟩ := info_parts info3
  have hc : Try.prog.cellsOf 3 = 1 := by kernel_rfl
  have h1 : (part 3 #[Value.int .i64 x0, Value.int .i64 x1] 0).run Try.prog w = .ok (.int .i64 x0) w := by go_simp
  have h2 : (part 3 #[Value.int .i64 y0, Value.int .i64 y1] 0).run Try.prog w = .ok (.int .i64 y0) w := by go_simp
  have h3 : (part 3 #[Value.int .i64 x0, Value.int .i64 x1] 1).run Try.prog w = .ok (.int .i64 x1) w := by go_simp
  have h4 : (part 3 #[Value.int .i64 y0, Value.int .i64 y1] 1).run Try.prog w = .ok (.int .i64 y1) w := by go_simp
  have h5 : (Op.equalIn (d + 1) 3 (.int .i64 x0) (.int .i64 y0)).run Try.prog w = .ok (x0 == y0) w := run_equalIn_int w d 3 .i64 .i64 x0 y0 Try.underlying3
  have h6 : (Op.equalIn (d + 1) 3 (.int .i64 x1) (.int .i64 y1)).run Try.prog w = .ok (x1 == y1) w := run_equalIn_int w d 3 .i64 .i64 x1 y1 Try.underlying3
  rw [run_equalIn_array w (d + 1) _ _ Try.underlying74 hi, hc, show List.range 2 = [0, 1] from rfl]
  simp only [Op.eqItems, Sem.run_bind, Nat.zero_mul, Nat.one_mul, h1, h2, h3, h4, h5, h6, Result.andThen_ok]
  cases hx : (x0 == y0)
  · simp
  · cases hy : (x1 == y1) <;> simp [h3, h4, h6, hy]
theorem grp_at2 {w : World} {gs : List (List Int)} {n c b : Nat} {A : Option Addr} (hn : n = gs.length) (hV : Kd.V (Kd.slice 3 (Kd.int .i64)) 23 w b (fun _ => True) (.slice A n c) gs) (i : Nat) (hi : (i : Int) < (n : Int)) :
    ∃ (ad : Addr) (A1 : Option Addr) (c1 : Nat), A = some ad ∧ w.cell? (ad.add i) = some (.slice A1 (gs.getD i []).length c1) ∧ (gs.getD i []).length ≤ c1 ∧ (Kd.int .i64).C w A1 (gs.getD i []).length (gs.getD i []) := by
  subst hn
  obtain ⟨ad, c, e, _, hK, hc0⟩ := Kd.C_get (Kd.V_reads' hV).2.2 ([] : List Int) (i : Int) (by omega) hi
  have hc : ∀ j u, c[j]? = some u → w.cell? (ad.add ((i : Int).toNat * 1 + j)) = some u := hc0
  rw [Int.toNat_natCast] at hK hc
  obtain ⟨A1, c1, rfl, l1, g1⟩ := hK
  exact ⟨ad, A1, c1, e, by have hq := hc 0 _ rfl; rwa [Nat.mul_one, Nat.add_zero] at hq, l1, g1⟩
theorem pair_at {w : World} {M : List (Int × Int)} {n c b : Nat} {A : Option Addr} (hn : n = M.length) (hV : Kd.V k74 74 w b (fun _ => True) (.slice A n c) M) (i : Nat) (hi : (i : Int) < (n : Int)) :
    ∃ ad : Addr, A = some ad ∧ w.cell? (ad.add (i * 2)) = some (.int .i64 (M.getD i (0, 0)).1) ∧ w.cell? ⟨(ad.add (i * 2)).block, (ad.add (i * 2)).off + 1, none⟩ = some (.int .i64 (M.getD i (0, 0)).2) := by
  subst hn
  obtain ⟨ad, c, e, _, hK, hc0⟩ := Kd.C_get (Kd.V_reads' hV).2.2 ((0, 0) : Int × Int) (i : Int) (by omega) hi
  have hc : ∀ j u, c[j]? = some u → w.cell? (ad.add ((i : Int).toNat * 2 + j)) = some u := hc0
  rw [Int.toNat_natCast] at hK hc
  obtain ⟨l1, l2, rfl, rfl, rfl⟩ := hK
  exact ⟨ad, e, hc 0 _ rfl, by rw [← add_field _ _ 1 (by omega)]; exact hc 1 _ rfl⟩
/-- L.Ints at a list and itself. -/
theorem Ints_on {g : List Int} (hg : g.length ≤ 1000000) {w : World} {A1 A2 : Option Addr} {c1 c2 : Nat} (h1 : (Kd.int .i64).C w A1 g.length g) (l1 : g.length ≤ c1) (h2 : (Kd.int .i64).C w A2 g.length g) (l2 : g.length ≤ c2) :
    ∀ W, Below w.heap.size w W → Calls Try.prog 68 #[.slice A1 g.length c1, .slice A2 g.length c2] W fun e w' => e = .returned (.bool true) ∧ Below W.heap.size W w' := fun W hW => by
  obtain ⟨k, hk⟩ := ints_self g hg
  exact (cordonref03_Ints.calls k A1 c1 g A2 c2 g true W (Kd.C_below h1 hW) l1 (Kd.C_below h2 hW) l2 hk).mono fun e w' ⟨he, hd⟩ => ⟨he, hd.below⟩
theorem C_Vg {w : World} {A : Option Addr} {c : Nat} {l : List (List Int)} (h : Kd.C (Kd.slice 3 (Kd.int .i64)) w A l.length l) (hc : l.length ≤ c) : Kd.V (Kd.slice 3 (Kd.int .i64)) 23 w 0 (fun _ => True) (.slice A l.length c) l :=
  Kd.V_mono (Kd.V_mk hc (Kd.C_F (Kd.heap_slice 3 (Kd.heap_int .i64)) h)) (fun _ _ => trivial)
theorem refl_ofJ {w : World} {α : Type} {d : Kd α} {e : Nat} {b : Nat} {ok : Nat → Prop} {v : Value} {xs : List α} (h : Kd.V d e w b ok v xs) : Below w.heap.size w w := Below.refl _ _
theorem groups_bound {l : List (List S33)} (h : gL l) : (groupsL l).length ≤ 40 ∧ ∀ g ∈ groupsL l, g.length ≤ 40 := by
  rw [groups_plc]
  refine ⟨?_, fun g hg => ?_⟩
  · rw [List.length_map]
    have := keepL_len (fun _ => true) l []
    have h2 := h.1
    show (keepL (fun _ => true) [] l).length ≤ 40
    omega
  · obtain ⟨r, _, rfl⟩ := List.mem_map.1 hg
    have := plc_len (keysOf l) (kb r) l.length
    have := h.1
    omega
attribute [local go_sem high] eqA74
set_option maxHeartbeats 16000000 in
set_option maxRecDepth 1000000 in
theorem RowsJoins.calls (A0 : Option Addr) (c0 : Nat) (l0 : List (List S33)) (A1 : Option Addr) (c1 : Nat) (l1 : List (List S33)) (i j : Int) (w : World) (hr0 : Kd.C (Kd.slice 33 k33) w A0 l0.length l0) (hc0 : l0.length ≤ c0) (hr1 : Kd.C (Kd.slice 33 k33) w A1 l1.length l1) (hc1 : l1.length ≤ c1)
    (hp : ∃ k r, cordonlaw11_Few.f k [l0, l1] = some r ∧ (r = true → ∀ l ∈ [l0, l1], gL l)) :
    Calls Try.prog 17 #[.slice A0 l0.length c0, .slice A1 l1.length c1, .int .i64 i, .int .i64 j] w fun e w' => e = .returned (.bool true) ∧ Below w.heap.size w w' := by
  obtain ⟨k, r, hk, hg⟩ := hp
  have A := Aside0.mk (C_V hr0 hc0)
  have B := Aside0.mk (C_V hr1 hc1)
  have HB := Aside0.mk (Below.refl w.heap.size w)
  have HG := Aside0.mk hg
  have HF := Aside0.mk (Few_calls hk (V_lit (Kd.slice 22 (Kd.slice 33 k33)) 58 (W := w) (xs := [l0, l1]) (inner := [.slice A0 l0.length c0, .slice A1 l1.length c1]) (Reps.one (Kd.FK_slice_mk (Kd.V_reads' A.out).2.1 (Kd.V_F A.out)) (Reps.one (Kd.FK_slice_mk (Kd.V_reads' B.out).2.1 (Kd.V_F B.out)) (Reps.none _ _))) (by simp)))
  clear hr0 hc0 hr1 hc1 hk hg
  go_enter Try.func17, Try.ntmps17
  go_wp2_with fail
  refine HF.out.mono ?_
  rintro e w0 ⟨rfl, hb0⟩
  have hb : Below w.heap.size w w0 := below_step (below_alloc (Below.refl w.heap.size w) _) hb0
  clear hb0 HF
  replace A := Aside0.mk (Kd.V_below A.out hb)
  replace B := Aside0.mk (Kd.V_below B.out hb)
  replace HB := Aside0.mk (below_step HB.out hb)
  clear hb
  cases r with
  | false =>
    go_wp2_with fail
    refine (alive_calls _).mono ?_
    rintro e w1 ⟨rfl, hb⟩
    replace HB := Aside0.mk (below_step HB.out hb)
    clear hb
    go_wp2
    go_ret
    exact ⟨rfl, HB.out⟩
  | true =>
    have G0 := Aside0.mk (HG.out rfl l0 (by simp))
    have G1 := Aside0.mk (HG.out rfl l1 (by simp))
    have F0 := Aside0.mk (gL_fine G0.out)
    obtain ⟨K, hK⟩ := rgroups_is l0 G0.out
    obtain ⟨gs, hgs⟩ : ∃ gs, gs = groupsL l0 := ⟨_, rfl⟩
    have HGB := Aside0.mk (show gs.length ≤ 40 ∧ ∀ g ∈ gs, g.length ≤ 40 by rw [hgs]; exact groups_bound G0.out)
    rw [← hgs] at hK
    have HK := Aside0.mk hK
    have HGS := Aside0.mk hgs
    clear HG hK hgs
    go_wp2_with fail
    refine (Groups_calls (fun _ => True) A0 c0 l0 _ (Kd.V_mono (Kd.V_bound A.out) (fun _ _ => trivial)) F0.out.len F0.out.row F0.out.max).mono ?_
    rintro e wG ⟨vG, rfl, ho, hb⟩
    rw [← HGS.out] at ho
    obtain ⟨AL, cL, eL, hcl, hL⟩ := Kd.S_reads ho
    subst eL
    have LV := Aside0.mk (C_Vg hL hcl)
    clear ho hcl hL
    replace A := Aside0.mk (Kd.V_below A.out hb)
    replace B := Aside0.mk (Kd.V_below B.out hb)
    replace HB := Aside0.mk (below_step HB.out hb)
    clear hb
    go_wp2_with fail
    refine (cordonref11_Groups.calls K (fun _ => True) A0 c0 l0 gs _ (Kd.V_mono (Kd.V_bound A.out) (fun _ _ => trivial)) HK.out).mono ?_
    rintro e wH ⟨vH, rfl, ho, hb⟩
    have HV := Aside0.mk (Kd.V_mono (ok' := fun _ => True) (Kd.N_V (base' := 0) ho) (fun _ _ => trivial))
    clear ho
    obtain ⟨AH, cH, eH, _, _⟩ := id HV.out
    subst eH
    replace A := Aside0.mk (Kd.V_below A.out hb)
    replace B := Aside0.mk (Kd.V_below B.out hb)
    replace LV := Aside0.mk (Kd.V_below LV.out hb)
    replace HB := Aside0.mk (below_step HB.out hb)
    clear hb
    obtain ⟨n, hn⟩ : ∃ n, n = gs.length := ⟨_, rfl⟩
    rw [← hn] at LV HV ⊢
    have HN := Aside0.mk hn
    have H40 := Aside0.mk (show n ≤ 40 by rw [hn]; exact HGB.out.1)
    have hself : (n == n) = true := by simp
    clear hn
    go_wp2_with fail
    go_loopg [32] n (fun kq v32 w' => ∃ (q : Nat), v32 = .int .i64 (q : Int) ∧ Aside0 (q + kq = n) ∧ Aside0 (Kd.V (Kd.slice 33 k33) 22 w' 0 (fun _ => True) (.slice A0 l0.length c0) l0) ∧ Aside0 (Kd.V (Kd.slice 33 k33) 22 w' 0 (fun _ => True) (.slice A1 l1.length c1) l1) ∧ Aside0 (Kd.V (Kd.slice 3 (Kd.int .i64)) 23 w' 0 (fun _ => True) (.slice AL n cL) gs) ∧ Aside0 (Kd.V (Kd.slice 3 (Kd.int .i64)) 23 w' 0 (fun _ => True) (.slice AH n cH) gs) ∧ Aside0 (Below w.heap.size w w'))
    case atStart => exact ⟨0, rfl, ⟨by simp⟩, A, B, LV, HV, HB⟩
    case round =>
      clear A B LV HV HB
      obtain ⟨q, rfl, HI, A, B, LV, HV, HB⟩ := hrel
      by_cases cq : (q : Int) < (n : Int)
      · have cqb : decide ((q : Int) < (n : Int)) = true := decide_eq_true cq
        have p0 : (0 : Int) ≤ q := by omega
        obtain ⟨k1, rfl⟩ : ∃ k1, gk = k1 + 1 := ⟨gk - 1, by have := HI.out; omega⟩
        have HW := Aside0.mk (show wrap64 ((q : Int) + 1) = ((q + 1 : Nat) : Int) from wrapN q (by have := H40.out; omega))
        have HI' := Aside0.mk (show q + 1 + k1 = n by have := HI.out; omega)
        obtain ⟨ad, Ag, cg, e1, hx1, hl1, hc1⟩ := grp_at2 HN.out LV.out q cq
        obtain ⟨ah, Ah, ch, e2, hx2, hl2, hc2⟩ := grp_at2 HN.out HV.out q cq
        subst e1
        subst e2
        have hgl : (gs.getD q []).length ≤ 1000000 := by
          have hlt : q < gs.length := by have := HN.out; omega
          rw [List.getD_eq_getElem?_getD, List.getElem?_eq_getElem hlt]
          have := HGB.out.2 gs[q] (List.getElem_mem hlt)
          simp only [Option.getD_some]
          omega
        obtain ⟨g, hg⟩ : ∃ g, g = gs.getD q [] := ⟨_, rfl⟩
        rw [← hg] at hx1 hl1 hc1 hx2 hl2 hc2 hgl
        have HO := Aside0.mk (Ints_on hgl hc1 hl1 hc2 hl2)
        have HB1 := Aside0.mk (refl_ofJ LV.out)
        clear hg hl1 hc1 hl2 hc2 hgl HI
        go_wp2_with fail
        go_region_held3 (fun w' => w'.cell? (ad.add q) = some (.slice Ag g.length cg) ∧ w'.cell? (ah.add q) = some (.slice Ah g.length ch))
          (first | go_keep | (refine ⟨?_, ?_⟩ <;> refine pw_cell_below hbl ?_ <;> first | assumption | (simp only [*]; done)))
          (first | (go_at_call 68; refine (HO.out _ (by first | exact HB1.out | exact below_drew1 HB1.out)).mono ?_; rintro e w_ ⟨rfl, hbl⟩; have n0_ := Aside0.mk (below_step (by first | exact HB1.out | exact below_drew1 HB1.out) hbl); clear HB1; have HB1 := n0_; clear n0_))
        go_wp2_with fail
        replace A := Aside0.mk (Kd.V_below A.out HB1.out)
        replace B := Aside0.mk (Kd.V_below B.out HB1.out)
        replace LV := Aside0.mk (Kd.V_below LV.out HB1.out)
        replace HV := Aside0.mk (Kd.V_below HV.out HB1.out)
        replace HB := Aside0.mk (below_step HB.out HB1.out)
        go_roundg k1
        case measure => omega
        case rel => exact ⟨q + 1, by rw [HW.out], HI', A, B, LV, HV, HB⟩
      · have cqb : decide ((q : Int) < (n : Int)) = false := decide_eq_false cq
        obtain ⟨M, hM⟩ : ∃ M, M = matchL l0 l1 i j l0.length := ⟨_, rfl⟩
        have HM := Aside0.mk hM
        have HML := Aside0.mk (show M.length ≤ 1600 by
          rw [hM]
          have h1 := match_len l0 l1 i j l0.length
          have h2 := Nat.mul_le_mul G0.out.1 G1.out.1
          omega)
        clear LV HV HI hM
        go_wp2_with fail
        refine (Match_calls A0 c0 l0 A1 c1 l1 i j _ A.out B.out G0.out G1.out).mono ?_
        rintro e wM ⟨vM, rfl, ho, hb⟩
        rw [← HM.out] at ho
        obtain ⟨AM, cM, eM, _, _⟩ := id ho
        subst eM
        have MV := Aside0.mk ho
        clear ho
        replace A := Aside0.mk (Kd.V_below A.out hb)
        replace B := Aside0.mk (Kd.V_below B.out hb)
        replace HB := Aside0.mk (below_step HB.out hb)
        clear hb
        go_wp2_with fail
        refine (RMatch_calls A0 c0 l0 A1 c1 l1 i j _ A.out B.out G0.out G1.out).mono ?_
        rintro e wN ⟨vN, rfl, ho, hb⟩
        rw [← HM.out] at ho
        obtain ⟨AN, cN, eN, _, _⟩ := id ho
        subst eN
        have NV := Aside0.mk ho
        clear ho A B
        replace MV := Aside0.mk (Kd.V_below MV.out hb)
        replace HB := Aside0.mk (below_step HB.out hb)
        clear hb
        obtain ⟨z, hz⟩ : ∃ z, z = M.length := ⟨_, rfl⟩
        rw [← hz] at MV NV HML ⊢
        have HZ := Aside0.mk hz
        have hself2 : (z == z) = true := by simp
        clear hz
        go_wp2_with fail
        go_loopg [63] z (fun kq v63 w' => ∃ (q : Nat), v63 = .int .i64 (q : Int) ∧ Aside0 (q + kq = z) ∧ Aside0 (Kd.V k74 74 w' 0 (fun _ => True) (.slice AM z cM) M) ∧ Aside0 (Kd.V k74 74 w' 0 (fun _ => True) (.slice AN z cN) M) ∧ Aside0 (Below w.heap.size w w'))
        case atStart => exact ⟨0, rfl, ⟨by simp⟩, MV, NV, HB⟩
        case round =>
          clear MV NV HB
          obtain ⟨q, rfl, HI, MV, NV, HB⟩ := hrel
          by_cases c3 : (q : Int) < (z : Int)
          · have c3b : decide ((q : Int) < (z : Int)) = true := decide_eq_true c3
            have p0 : (0 : Int) ≤ q := by omega
            obtain ⟨k1, rfl⟩ : ∃ k1, gk = k1 + 1 := ⟨gk - 1, by have := HI.out; omega⟩
            have HW := Aside0.mk (show wrap64 ((q : Int) + 1) = ((q + 1 : Nat) : Int) from wrapN q (by have := HML.out; omega))
            have HI' := Aside0.mk (show q + 1 + k1 = z by have := HI.out; omega)
            obtain ⟨ad, e1, hx1, hy1⟩ := pair_at HZ.out MV.out q c3
            obtain ⟨ah, e2, hx2, hy2⟩ := pair_at HZ.out NV.out q c3
            subst e1
            subst e2
            obtain ⟨x, hx⟩ : ∃ x, x = (M.getD q (0, 0)).1 := ⟨_, rfl⟩
            obtain ⟨y, hy⟩ : ∃ y, y = (M.getD q (0, 0)).2 := ⟨_, rfl⟩
            rw [← hx] at hx1 hx2
            rw [← hy] at hy1 hy2
            clear hx hy HI
            go_wp2_with fail
            go_quiet (fail)
            have MV1 := Aside0.mk (Kd.V_drewN MV.out nq)
            have NV1 := Aside0.mk (Kd.V_drewN NV.out nq)
            have HB1 := Aside0.mk (pw_below_drewN HB.out nq)
            clear MV NV HB hx1 hx2 hy1 hy2
            generalize wr.drewN nq = W1 at MV1 NV1 HB1 ⊢
            go_wp2_with fail
            go_roundg k1
            case measure => omega
            case rel => exact ⟨q + 1, by rw [HW.out], HI', MV1, NV1, HB1⟩
          · have c3b : decide ((q : Int) < (z : Int)) = false := decide_eq_false c3
            go_wp2_with fail
            refine (alive_calls _).mono ?_
            rintro e w9 ⟨rfl, hb⟩
            replace HB := Aside0.mk (below_step HB.out hb)
            clear hb
            go_wp2
            go_ret
            exact ⟨rfl, HB.out⟩
end Go.Proofs.Ythghflgmeepnlaa.Pa
namespace Go.Proofs.Ythghflgmeepnlaa.Pure
open Go.RowKit Go.Proofs.Ythghflgmeepnlaa.Pa
theorem RowsJoins (l0 : List (List S33)) (h0 : l0.length ≤ maxLen) (g0 : ∀ x ∈ l0, x.length ≤ maxLen ∧ ∀ y ∈ x, okv y) (l1 : List (List S33)) (h1 : l1.length ≤ maxLen) (g1 : ∀ x ∈ l1, x.length ≤ maxLen ∧ ∀ y ∈ x, okv y) (i : Int) (_ : (Lit.int .i64 i).wf = true) (j : Int) (_ : (Lit.int .i64 j).wf = true) :
    ∃ k r, cordonlaw11_Few.f k [l0, l1] = some r ∧ (r = true → ∀ l ∈ [l0, l1], gL l) := RowsSets l0 h0 g0 l1 h1 g1
end Go.Proofs.Ythghflgmeepnlaa.Pure
end
