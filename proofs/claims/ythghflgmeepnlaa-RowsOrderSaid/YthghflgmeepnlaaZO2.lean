/- What RowsOrder hangs on, part 2 of 4: our texts put together by trim.py, without what the proof does not need. -/
import Derived.Test.YthghflgmeepnlaaZO1
import Derived.Deep.Slices
import Derived.Deep.Strs
import Derived.Laws.BitsAllLaws
import Derived.Maps.Own
import Derived.Maps.OwnOps
import Derived.Maps.Views
import Derived.Maps.OwnSet
import Derived.BigRegion
import Derived.BigQuiet
import Derived.Deep.LoopGhost
section
namespace Go.Proofs.Ythghflgmeepnlaa.Pa
open Go.RowKit Go.Proofs.YthghflgmeepnlaaW.PrintWords Go.Proofs.YthghflgmeepnlaaW.PrintLast Go.Proofs.YthghflgmeepnlaaW.PrintMore
attribute [local go_sem] max2_int max_two
set_option linter.unusedVariables false
set_option linter.unusedSimpArgs false
def cordonlaw02_Few.l0 : Nat → List (S33) → Int → Int → Option (Bool)
  | 0, _, _, _ => none
  | k + 1, x0, x5, x6 => if x6 < x5 then (if 0 ≤ x6 then (if x6 < (x0.length : Int) then (if (((rd_T33 x0 x6).f2).size : Int) > 1100 then (some false) else (cordonlaw02_Few.l0 k x0 x5 (wrap64 (x6 + 1)))) else (none)) else (none)) else (some (decide ((x0.length : Int) ≤ 60)))
def cordonlaw02_Few.f (k : Nat) (l0 : List (S33)) : Option (Bool) := cordonlaw02_Few.l0 k l0 (l0.length : Int) 0
set_option maxHeartbeats 8000000 in
set_option maxRecDepth 100000 in
theorem cordonlaw02_Few.calls (k : Nat) (A0 : Option Addr) (c0 : Nat) (l0 : List (S33)) (r : Bool) (w : World) (hr0 : Kd.C k33 w A0 l0.length l0) (hc0 : l0.length ≤ c0) (h : cordonlaw02_Few.f k l0 = some r) :
    Calls Try.prog 19 #[.slice A0 l0.length c0] w fun e w' => e = .returned (.bool r) ∧ Drawn0 w w' := by
  have HR0 := Aside0.mk hr0
  have HC0 := Aside0.mk hc0
  clear hr0 hc0
  have H : (cordonlaw02_Few.l0 k l0 (l0.length : Int) 0) = some r := h
  clear h
  have H' := Aside0.mk H
  clear H
  go_enter Try.func19, Try.ntmps19
  go_wp2
  go_loopg [6] k (fun kq v6 w' => ∃ (x6_1 : Int), v6 = .int .i64 x6_1 ∧ Aside0 (cordonlaw02_Few.l0 kq l0 (l0.length : Int) x6_1 = some r) ∧ Aside0 (kq ≤ k) ∧ Drawn0 w w')
  case atStart => exact ⟨(0), (by first | rfl | (simp; done) | (simp [*]; done)), H', ⟨Nat.le_refl _⟩, by repeat (first | exact Drawn0.refl _ | apply Drawn0.step)⟩
  case round =>
    clear H'
    try clear c1
    obtain ⟨x6_1, rfl, HA, HK1, ⟨m1, rfl⟩⟩ := hrel
    cases gk with
    | zero => exact absurd HA.out (by simp [cordonlaw02_Few.l0])
    | succ k1 =>
      have H := HA.out
      clear HA
      simp only [cordonlaw02_Few.l0] at H
      by_cases c2 : x6_1 < (l0.length : Int)
      · rw [if_pos c2] at H
        have c2b0 : decide (x6_1 < (l0.length : Int)) = true := decide_eq_true c2
        clear c2
        by_cases c3 : 0 ≤ x6_1
        · rw [if_pos c3] at H
          have c3b0 : decide (0 ≤ x6_1) = true := decide_eq_true c3
          clear c3
          by_cases c4 : x6_1 < (l0.length : Int)
          · rw [if_pos c4] at H
            have c4b0 : decide (x6_1 < (l0.length : Int)) = true := decide_eq_true c4
            clear c4
            by_cases c5 : (((rd_T33 l0 x6_1).f2).size : Int) > 1100
            · rw [if_pos c5] at H
              have c5b0 : decide (1100 < (((rd_T33 l0 x6_1).f2).size : Int)) = true := decide_eq_true c5
              have c5b1 : decide (1100 < ((rd_T33 l0 x6_1).f2).size) = true := decide_eq_true (by omega)
              clear c5
              obtain rfl := Option.some.inj H
              have p101 : 0 ≤ (x6_1 : Int) := of_decide_eq_true (by first | (with_reducible assumption) | assumption)
              have q101 : x6_1 < (l0.length : Int) := of_decide_eq_true (by first | (with_reducible assumption) | assumption)
              obtain ⟨ad101, e101, hx101_0, hx101_1, hx101_2⟩ := at_T33 HR0.out x6_1 p101 q101
              cases e101
              replace p101 := eq_true p101
              replace q101 := eq_true q101
              go_wp2
              go_ret
              exact ⟨by first | rfl | (simp; done) | (simp [*]; done), by repeat (first | exact Drawn0.refl _ | apply Drawn0.step)⟩
            · rw [if_neg c5] at H
              have c5b0 : decide (1100 < (((rd_T33 l0 x6_1).f2).size : Int)) = false := decide_eq_false c5
              have c5b1 : decide (1100 < ((rd_T33 l0 x6_1).f2).size) = false := decide_eq_false (by omega)
              clear c5
              have H' := Aside0.mk H
              clear H
              have p101 : 0 ≤ (x6_1 : Int) := of_decide_eq_true (by first | (with_reducible assumption) | assumption)
              have q101 : x6_1 < (l0.length : Int) := of_decide_eq_true (by first | (with_reducible assumption) | assumption)
              obtain ⟨ad101, e101, hx101_0, hx101_1, hx101_2⟩ := at_T33 HR0.out x6_1 p101 q101
              cases e101
              replace p101 := eq_true p101
              replace q101 := eq_true q101
              go_wp2
              go_roundg k1
              case measure => have := HK1.out; omega
              case rel => exact ⟨(wrap64 (x6_1 + 1)), (by first | rfl | (simp; done) | (simp [*]; done)), H', ⟨by have := HK1.out; omega⟩, by repeat (first | exact Drawn0.refl _ | apply Drawn0.step)⟩
          · rw [if_neg c4] at H
            exact absurd H (by simp)
        · rw [if_neg c3] at H
          exact absurd H (by simp)
      · rw [if_neg c2] at H
        have c2b0 : decide (x6_1 < (l0.length : Int)) = false := decide_eq_false c2
        clear c2
        obtain rfl := Option.some.inj H
        go_wp2
        go_ret
        exact ⟨by first | rfl | (simp; done) | (simp [*]; done), by repeat (first | exact Drawn0.refl _ | apply Drawn0.step)⟩
mutual
def code_put.l0 : Nat → List Int → Int → Int → Int → ByteArray → Option (List Int)
  | 0, _, _, _, _, _ => none
  | k + 1, x0, x5, x108000, x108001, x108002 => if x5 ≥ 0 then (if 0 ≤ (wrap64 (8 * x5)) then (if x0.length < 140737488355328 then (code_put.l0 k (x0 ++ [(shr .u64 (Go.bits .xor .u64 (IntKind.u64.wrap (x108001)) 9223372036854775808) (wrap64 (8 * x5))) % 256]) (wrap64 (x5 - 1)) x108000 x108001 x108002) else (none)) else (none)) else (some x0)
def code_put.l1 : Nat → List Int → Int → Int → Int → Int → ByteArray → Option (List Int)
  | 0, _, _, _, _, _, _ => none
  | k + 1, x0, x46, x47, x108000, x108001, x108002 => if x47 < x46 then (if 0 ≤ x47 then (if x47 < (x108002.size : Int) then (if x0.length < 140737488355328 then ((some (x0 ++ [bt x108002 x47] : List Int)).bind fun y120 => (if (bt x108002 x47) = 0 then (if y120.length < 140737488355328 then (code_put.l1 k (y120 ++ [255]) x46 (wrap64 (x47 + 1)) x108000 x108001 x108002) else (none)) else (code_put.l1 k y120 x46 (wrap64 (x47 + 1)) x108000 x108001 x108002))) else (none)) else (none)) else (none)) else ((some (([0, 0] : List Int) : List Int)).bind fun y126 => (if x0.length + y126.length < 140737488355328 then (some (x0 ++ y126)) else (none)))
end
def code_put.f (k : Nat) (l0 : List Int) (a1_0 : Int) (a1_1 : Int) (a1_2 : ByteArray) : Option (List Int) := if a1_0 = 1 then (if l0.length < 140737488355328 then (some (l0 ++ [(wrap64 (2 + a1_1)) % 256])) else (none)) else (if a1_0 = 2 then (if l0.length < 140737488355328 then (code_put.l0 k (l0 ++ [4]) 7 a1_0 a1_1 a1_2) else (none)) else (if a1_0 = 3 then (if l0.length < 140737488355328 then (code_put.l1 k (l0 ++ [5]) (a1_2.size : Int) 0 a1_0 a1_1 a1_2) else (none)) else (if l0.length < 140737488355328 then (some (l0 ++ [1])) else (none))))
set_option maxHeartbeats 8000000 in
set_option maxRecDepth 100000 in
theorem code_put.calls (k : Nat) (P0_ : Nat → Prop) (u9000_ : Value) (l0 : List Int) (a1_0 : Int) (a1_1 : Int) (a1_2 : ByteArray) (r : List Int) (w0 w : World) (hB : Below w0.heap.size w0 w) (ho0 : Kd.R (Kd.int .u8) 5 w w0.heap.size P0_ u9000_ l0) (h : code_put.f k l0 a1_0 a1_1 a1_2 = some r) :
    Calls Try.prog 72 #[u9000_, .agg #[.int .i64 a1_0, .int .i64 a1_1, .string a1_2]] w fun e w' => ∃ v0_ : Value, e = .returned (v0_) ∧ Kd.R (Kd.int .u8) 5 w' w0.heap.size (fun k_ => (P0_ k_ ∨ w.heap.size ≤ k_)) v0_ r ∧ Below w0.heap.size w0 w' ∧ Kept w w' (fun k_ => P0_ k_) := by
  have hu33 := Try.underlying33
  have HO0 := Aside0.mk (show Kd.R (Kd.int .u8) 5 w w0.heap.size (fun k_ => (P0_ k_ ∨ w.heap.size ≤ k_)) u9000_ l0 from Kd.R_mono ho0 (fun k_ hk => (.inl hk)))
  have HK := Aside0.mk (Kept.refl w (fun k_ => P0_ k_))
  have HW0 := Aside0.mk hB.size
  have HB := Aside0.mk hB
  clear hB
  have H : (if a1_0 = 1 then (if l0.length < 140737488355328 then (some (l0 ++ [(wrap64 (2 + a1_1)) % 256])) else (none)) else (if a1_0 = 2 then (if l0.length < 140737488355328 then (code_put.l0 k (l0 ++ [4]) 7 a1_0 a1_1 a1_2) else (none)) else (if a1_0 = 3 then (if l0.length < 140737488355328 then (code_put.l1 k (l0 ++ [5]) (a1_2.size : Int) 0 a1_0 a1_1 a1_2) else (none)) else (if l0.length < 140737488355328 then (some (l0 ++ [1])) else (none))))) = some r := h
  clear h
  by_cases c3 : a1_0 = 1
  · rw [if_pos c3] at H
    have c3b0 : (a1_0 == 1) = true := beq_iff_eq.mpr c3
    have c3b1 : (a1_0 != 1) = false := bne_eq_false_iff_eq.mpr c3
    clear c3
    by_cases c4 : l0.length < 140737488355328
    · rw [if_pos c4] at H
      have LMc4 := Aside0.mk c4
      clear c4
      obtain ⟨y108, hy108⟩ : ∃ y_ : List Int, y_ = (l0 ++ [(wrap64 (2 + a1_1)) % 256]) := ⟨_, rfl⟩
      replace H : (some y108) = some r := by first | (rw [hy108]; with_reducible exact H) | (have H2_ := (Option.bind_some _ _).symm.trans H; rw [hy108]; with_reducible exact H2_) | (have H2_ := (Option.bind_some _ _).symm.trans H; with_reducible exact H2_) | with_reducible exact H | (rw [hy108]; exact H) | exact H
      have Ny108 := Aside0.mk hy108
      clear hy108
      obtain rfl := Option.some.inj H
      go_enter Try.func72, Try.ntmps72
      go_wp2_with (first | ((with_reducible refine gate_dst (N := 3) rfl ?_); refine box_event ?hg (N := 3) ?hd (cs := #[.int .i64 a1_0, .int .i64 a1_1, .string a1_2]) (t := 33) ?hr ?_; (case hd => rfl); (case hg => rfl); (case hr => first | (go_simp; done) | (go_simp; rfl)); intro gb107 hg w5 hbox hb; have n0_ := Aside0.mk (Kd.R_below (by (with_reducible repeat (first | apply Kd.R_alloc | apply Kd.R_drewN | apply Kd.R_drew)); exact HO0.out) hb); have n1_ := Aside0.mk (Kept.below (S := (fun k_ => P0_ k_)) (by repeat (first | (with_reducible first | exact HK.out | apply Kept.alloc | apply Kept.drewN | apply Kept.drew) | exact HK.out)) hb); have n2_ := Aside0.mk (below_step (by repeat (first | (with_reducible first | exact HB.out | apply below_alloc | apply pw_below_drewN | apply below_drew1) | exact HB.out)) hb); have n3_ := Aside0.mk (hbox); have n4_ := Aside0.mk ((by rw [hg]; exact (by first | exact HK.out.1 | exact (show Kept w _ (fun k_ => P0_ k_) from by repeat (first | (with_reducible first | exact HK.out | apply Kept.alloc | apply Kept.drewN | apply Kept.drew) | exact HK.out)).1) : w.heap.size ≤ gb107)); have n5_ := Aside0.mk ((by rw [hg]; exact (below_size (by repeat (first | (with_reducible first | exact HB.out | apply below_alloc | apply pw_below_drewN | apply below_drew1) | exact HB.out))) : w0.heap.size ≤ gb107)); clear HO0; clear HK; clear HB; have HO0 := n0_; have HK := n1_; have HB := n2_; have BK107 := n3_; have GW107 := n4_; have GE107 := n5_; clear n0_ n1_ n2_ n3_ n4_ n5_; clear hb hbox hg; have hcz6_0 : w5.cell? ⟨gb107, 0, none⟩ = some (.int .i64 a1_0) := (blk_cell BK107.out 0).trans rfl; have hcz6_1 : w5.cell? ⟨gb107, 1, none⟩ = some (.int .i64 a1_1) := (blk_cell BK107.out 1).trans rfl; have hcz6_2 : w5.cell? ⟨gb107, 2, none⟩ = some (.string a1_2) := (blk_cell BK107.out 2).trans rfl; have hfz6_0 := blk_frozen BK107.out 0; have hfz6_1 := blk_frozen BK107.out 1; have hfz6_2 := blk_frozen BK107.out 2) | ((with_reducible refine gate_builtin (b := .append) (xs := #[.tmp 11, .tmp 16]) rfl ?_); at_builtin; refine Kd.R_append (Kd.int .u8) (w0 := w0) w0.heap.size rfl (.tmp 11) (.tmp 16) 77 5 (.int .u8 0) 1 rfl Try.underlying77 info5 rfl (by decide) (by omega) u9000_ l0 ((wrap64 (2 + a1_1)) % 256) [.int .u8 ((wrap64 (2 + a1_1)) % 256)] (fun k_ => (P0_ k_ ∨ w.heap.size ≤ k_)) (fun _ => False) rfl rfl ?aP (fun _ hk => hk.elim) ?aF ?aO ?aB ?aS ?aL ?_; (case aP => exact rfl); (case aB => exact (by repeat (first | (with_reducible first | exact HB.out | apply below_alloc | apply pw_below_drewN | apply below_drew1 | refine below_set ?_ GE107.out) | exact HB.out))); (case aF => exact (fun k_ hk => (.inr (Nat.le_trans (by first | exact HK.out.1 | exact (show Kept w _ (fun k_ => P0_ k_) from by repeat (first | (with_reducible first | exact HK.out | apply Kept.alloc | apply Kept.drewN | apply Kept.drew | refine Kept.setCell ?_ (.inr GW107.out) _) | exact HK.out)).1) hk)))); (case aO => exact (by (with_reducible repeat (first | apply Kd.R_alloc | apply Kd.R_drewN | apply Kd.R_drew)); exact HO0.out)); (case aS => exact (below_size (by repeat (first | (with_reducible first | exact HB.out | apply below_alloc | apply pw_below_drewN | apply below_drew1 | refine below_set ?_ GE107.out) | exact HB.out)))); (case aL => have := LMc4.out; omega); intro v109 w7 ho hb hg hat; rw [← Ny108.out] at ho; have n0_ := Aside0.mk (blk_grown (g := gb107) (o := .cells #[.int .i64 a1_0, .int .i64 a1_1, .string a1_2] 33 (0, 0)) (by (with_reducible repeat (first | refine blk_drewN ?_ _ | refine blk_drew ?_ | refine blk_alloc ?_ _)); exact BK107.out) hg (Kd.R_ne HO0.out BK107.out (by decide))); have n1_ := Aside0.mk (hb); have n2_ := Aside0.mk (Kept.of_grown (S := (fun k_ => P0_ k_)) hg (by repeat (first | (with_reducible first | exact HK.out | apply Kept.alloc | apply Kept.drewN | apply Kept.drew | refine Kept.setCell ?_ (.inr GW107.out) _) | exact HK.out)) (fun k_ e_ => (HO0.out.1 k_ e_))); have n3_ := Aside0.mk (ho); clear BK107; clear HB; clear HK; clear HO0; have BK107 := n0_; have HB := n1_; have HK := n2_; have HO110 := n3_; clear n0_ n1_ n2_ n3_; clear ho hb hg hat))
      go_ret
      exact ⟨_, by first | rfl | (simp [errW_none, errW_some] <;> rfl) | (simp [*, errW_none, errW_some] <;> rfl), by (with_reducible repeat (first | apply Kd.R_alloc | apply Kd.R_drewN | apply Kd.R_drew)); exact HO110.out, by repeat (first | (with_reducible first | exact HB.out | apply below_alloc | apply pw_below_drewN | apply below_drew1 | refine below_set ?_ GE107.out) | exact HB.out), by repeat (first | (with_reducible first | exact HK.out | apply Kept.alloc | apply Kept.drewN | apply Kept.drew | refine Kept.setCell ?_ (.inr GW107.out) _) | exact HK.out)⟩
    · rw [if_neg c4] at H
      exact absurd H (by simp)
  · rw [if_neg c3] at H
    have c3b0 : (a1_0 == 1) = false := beq_eq_false_iff_ne.mpr c3
    have c3b1 : (a1_0 != 1) = true := bne_iff_ne.mpr c3
    by_cases c8 : a1_0 = 2
    · rw [if_pos c8] at H
      have c8b0 : (a1_0 == 2) = true := beq_iff_eq.mpr c8
      have c8b1 : (a1_0 != 2) = false := bne_eq_false_iff_eq.mpr c8
      clear c8
      by_cases c9 : l0.length < 140737488355328
      · rw [if_pos c9] at H
        have LMc9 := Aside0.mk c9
        clear c9
        obtain ⟨y111, hy111⟩ : ∃ y_ : List Int, y_ = (l0 ++ [4]) := ⟨_, rfl⟩
        replace H : (code_put.l0 k y111 7 a1_0 a1_1 a1_2) = some r := by first | (rw [hy111]; with_reducible exact H) | (have H2_ := (Option.bind_some _ _).symm.trans H; rw [hy111]; with_reducible exact H2_) | (have H2_ := (Option.bind_some _ _).symm.trans H; with_reducible exact H2_) | with_reducible exact H | (rw [hy111]; exact H) | exact H
        have Ny111 := Aside0.mk hy111
        clear hy111
        have H' := Aside0.mk H
        clear H
        go_enter Try.func72, Try.ntmps72
        go_wp2_with (first | ((with_reducible refine gate_dst (N := 3) rfl ?_); refine box_event ?hg (N := 3) ?hd (cs := #[.int .i64 a1_0, .int .i64 a1_1, .string a1_2]) (t := 33) ?hr ?_; (case hd => rfl); (case hg => rfl); (case hr => first | (go_simp; done) | (go_simp; rfl)); intro gb107 hg w10 hbox hb; have n0_ := Aside0.mk (Kd.R_below (by (with_reducible repeat (first | apply Kd.R_alloc | apply Kd.R_drewN | apply Kd.R_drew)); exact HO0.out) hb); have n1_ := Aside0.mk (Kept.below (S := (fun k_ => P0_ k_)) (by repeat (first | (with_reducible first | exact HK.out | apply Kept.alloc | apply Kept.drewN | apply Kept.drew) | exact HK.out)) hb); have n2_ := Aside0.mk (below_step (by repeat (first | (with_reducible first | exact HB.out | apply below_alloc | apply pw_below_drewN | apply below_drew1) | exact HB.out)) hb); have n3_ := Aside0.mk (hbox); have n4_ := Aside0.mk ((by rw [hg]; exact (by first | exact HK.out.1 | exact (show Kept w _ (fun k_ => P0_ k_) from by repeat (first | (with_reducible first | exact HK.out | apply Kept.alloc | apply Kept.drewN | apply Kept.drew) | exact HK.out)).1) : w.heap.size ≤ gb107)); have n5_ := Aside0.mk ((by rw [hg]; exact (below_size (by repeat (first | (with_reducible first | exact HB.out | apply below_alloc | apply pw_below_drewN | apply below_drew1) | exact HB.out))) : w0.heap.size ≤ gb107)); clear HO0; clear HK; clear HB; have HO0 := n0_; have HK := n1_; have HB := n2_; have BK107 := n3_; have GW107 := n4_; have GE107 := n5_; clear n0_ n1_ n2_ n3_ n4_ n5_; clear hb hbox hg; have hcz11_0 : w10.cell? ⟨gb107, 0, none⟩ = some (.int .i64 a1_0) := (blk_cell BK107.out 0).trans rfl; have hcz11_1 : w10.cell? ⟨gb107, 1, none⟩ = some (.int .i64 a1_1) := (blk_cell BK107.out 1).trans rfl; have hcz11_2 : w10.cell? ⟨gb107, 2, none⟩ = some (.string a1_2) := (blk_cell BK107.out 2).trans rfl; have hfz11_0 := blk_frozen BK107.out 0; have hfz11_1 := blk_frozen BK107.out 1; have hfz11_2 := blk_frozen BK107.out 2) | ((with_reducible refine gate_builtin (b := .append) (xs := #[.tmp 20, .tmp 21]) rfl ?_); at_builtin; refine Kd.R_append (Kd.int .u8) (w0 := w0) w0.heap.size rfl (.tmp 20) (.tmp 21) 77 5 (.int .u8 0) 1 rfl Try.underlying77 info5 rfl (by decide) (by omega) u9000_ l0 4 [.int .u8 4] (fun k_ => (P0_ k_ ∨ w.heap.size ≤ k_)) (fun _ => False) rfl rfl ?aP (fun _ hk => hk.elim) ?aF ?aO ?aB ?aS ?aL ?_; (case aP => exact rfl); (case aB => exact (by repeat (first | (with_reducible first | exact HB.out | apply below_alloc | apply pw_below_drewN | apply below_drew1 | refine below_set ?_ GE107.out) | exact HB.out))); (case aF => exact (fun k_ hk => (.inr (Nat.le_trans (by first | exact HK.out.1 | exact (show Kept w _ (fun k_ => P0_ k_) from by repeat (first | (with_reducible first | exact HK.out | apply Kept.alloc | apply Kept.drewN | apply Kept.drew | refine Kept.setCell ?_ (.inr GW107.out) _) | exact HK.out)).1) hk)))); (case aO => exact (by (with_reducible repeat (first | apply Kd.R_alloc | apply Kd.R_drewN | apply Kd.R_drew)); exact HO0.out)); (case aS => exact (below_size (by repeat (first | (with_reducible first | exact HB.out | apply below_alloc | apply pw_below_drewN | apply below_drew1 | refine below_set ?_ GE107.out) | exact HB.out)))); (case aL => have := LMc9.out; omega); intro v112 w12 ho hb hg hat; rw [← Ny111.out] at ho; have n0_ := Aside0.mk (blk_grown (g := gb107) (o := .cells #[.int .i64 a1_0, .int .i64 a1_1, .string a1_2] 33 (0, 0)) (by (with_reducible repeat (first | refine blk_drewN ?_ _ | refine blk_drew ?_ | refine blk_alloc ?_ _)); exact BK107.out) hg (Kd.R_ne HO0.out BK107.out (by decide))); have n1_ := Aside0.mk (hb); have n2_ := Aside0.mk (Kept.of_grown (S := (fun k_ => P0_ k_)) hg (by repeat (first | (with_reducible first | exact HK.out | apply Kept.alloc | apply Kept.drewN | apply Kept.drew | refine Kept.setCell ?_ (.inr GW107.out) _) | exact HK.out)) (fun k_ e_ => (HO0.out.1 k_ e_))); have n3_ := Aside0.mk (ho); clear BK107; clear HB; clear HK; clear HO0; have BK107 := n0_; have HB := n1_; have HK := n2_; have HO113 := n3_; clear n0_ n1_ n2_ n3_; clear ho hb hg hat))
        go_loopg [0, 5] k (fun kq v0 v5 w' => ∃ (x0_1 : List Int) (x5_1 : Int), v5 = .int .i64 x5_1 ∧ Aside0 (code_put.l0 kq x0_1 x5_1 a1_0 a1_1 a1_2 = some r) ∧ Aside0 (kq ≤ k) ∧ Aside0 (Kd.R (Kd.int .u8) 5 w' w0.heap.size (fun k_ => (P0_ k_ ∨ w.heap.size ≤ k_)) v0 x0_1) ∧ Aside0 (w'.heap[gb107]? = some (.cells #[.int .i64 a1_0, .int .i64 a1_1, .string a1_2] 33 (0, 0))) ∧ Aside0 (Kept w w' (fun k_ => P0_ k_)) ∧ Aside0 (Below w0.heap.size w0 w'))
        case atStart => exact ⟨(y111), (7), (by first | rfl | (simp; done) | (simp [*]; done)), H', ⟨Nat.le_refl _⟩, ⟨by (with_reducible repeat (first | apply Kd.R_alloc | apply Kd.R_drewN | apply Kd.R_drew)); exact HO113.out⟩, ⟨by (with_reducible repeat (first | refine blk_drewN ?_ _ | refine blk_drew ?_ | refine blk_alloc ?_ _)); exact BK107.out⟩, ⟨by repeat (first | (with_reducible first | exact HK.out | apply Kept.alloc | apply Kept.drewN | apply Kept.drew | refine Kept.setCell ?_ (.inr GW107.out) _) | exact HK.out)⟩, ⟨by repeat (first | (with_reducible first | exact HB.out | apply below_alloc | apply pw_below_drewN | apply below_drew1 | refine below_set ?_ GE107.out) | exact HB.out)⟩⟩
        case round =>
          clear H'
          try clear p2
          try clear c3
          try clear c3b0
          try clear c3b1
          try clear c4
          try clear p6
          try clear c7
          try clear c8
          try clear c8b0
          try clear c8b1
          try clear c9
          try clear hcz11_0
          try clear hcz11_1
          try clear hcz11_2
          try clear hcz6_0
          try clear hcz6_1
          try clear hcz6_2
          try clear hfz11_0
          try clear hfz11_1
          try clear hfz11_2
          try clear hfz6_0
          try clear hfz6_1
          try clear hfz6_2
          obtain ⟨x0_1, x5_1, rfl, HA, HK1, HO_0, BK107, HK, HB⟩ := hrel
          cases gk with
          | zero => exact absurd HA.out (by simp [code_put.l0])
          | succ k1 =>
            have H := HA.out
            clear HA
            simp only [code_put.l0] at H
            by_cases c13 : x5_1 ≥ 0
            · rw [if_pos c13] at H
              have c13b0 : decide (0 ≤ x5_1) = true := decide_eq_true c13
              clear c13
              obtain ⟨ji14, hji14⟩ : ∃ j_ : Int, (wrap64 (8 * x5_1)) = j_ := ⟨_, rfl⟩
              replace H : (if 0 ≤ (ji14) then (if x0_1.length < 140737488355328 then (code_put.l0 k1 (x0_1 ++ [(shr .u64 (Go.bits .xor .u64 (IntKind.u64.wrap (a1_1)) 9223372036854775808) (ji14)) % 256]) (wrap64 (x5_1 - 1)) a1_0 a1_1 a1_2) else (none)) else (none)) = some r := by first | (rw [hji14] at H; exact H) | (simp only [hji14] at H ⊢; exact H)
              have hji14w : (IntKind.i64.wrap (8 * x5_1)) = ji14 := (i64_w _).trans hji14
              by_cases c15 : 0 ≤ (ji14)
              · rw [if_pos c15] at H
                have c15b0 := eq_true c15
                have c15b1 : decide (0 ≤ (ji14)) = true := decide_eq_true c15
                clear c15
                obtain ⟨ji16, hji16⟩ : ∃ j_ : Int, (shr .u64 (Go.bits .xor .u64 (IntKind.u64.wrap (a1_1)) 9223372036854775808) (ji14)) = j_ := ⟨_, rfl⟩
                replace H : (if x0_1.length < 140737488355328 then (code_put.l0 k1 (x0_1 ++ [(ji16) % 256]) (wrap64 (x5_1 - 1)) a1_0 a1_1 a1_2) else (none)) = some r := by first | (rw [hji16] at H; exact H) | (simp only [hji16] at H ⊢; exact H)
                have hji16_ : ((Go.bits .xor .u64 (IntKind.u64.wrap (a1_1)) 9223372036854775808) / 2 ^ min (ji14).toNat 64) = ji16 := hji16
                have hji16z : (ji14) ≤ 64 → ((Go.bits .xor .u64 (IntKind.u64.wrap (a1_1)) 9223372036854775808) / 2 ^ (ji14).toNat) = ji16 := shr_small hji16
                by_cases c17 : x0_1.length < 140737488355328
                · rw [if_pos c17] at H
                  have LMc17 := Aside0.mk c17
                  clear c17
                  obtain ⟨y114, hy114⟩ : ∃ y_ : List Int, y_ = (x0_1 ++ [(ji16) % 256]) := ⟨_, rfl⟩
                  replace H : (code_put.l0 k1 y114 (wrap64 (x5_1 - 1)) a1_0 a1_1 a1_2) = some r := by first | (rw [hy114]; with_reducible exact H) | (have H2_ := (Option.bind_some _ _).symm.trans H; rw [hy114]; with_reducible exact H2_) | (have H2_ := (Option.bind_some _ _).symm.trans H; with_reducible exact H2_) | with_reducible exact H | (rw [hy114]; exact H) | exact H
                  have Ny114 := Aside0.mk hy114
                  clear hy114
                  have H' := Aside0.mk H
                  clear H
                  have hcz18_0 : wr.cell? ⟨gb107, 0, none⟩ = some (.int .i64 a1_0) := (blk_cell BK107.out 0).trans rfl
                  have hcz18_1 : wr.cell? ⟨gb107, 1, none⟩ = some (.int .i64 a1_1) := (blk_cell BK107.out 1).trans rfl
                  have hcz18_2 : wr.cell? ⟨gb107, 2, none⟩ = some (.string a1_2) := (blk_cell BK107.out 2).trans rfl
                  have hfz18_0 := blk_frozen BK107.out 0
                  have hfz18_1 := blk_frozen BK107.out 1
                  have hfz18_2 := blk_frozen BK107.out 2
                  go_wp2_with (first | ((with_reducible refine gate_builtin (b := .append) (xs := #[.tmp 27, .tmp 36]) rfl ?_); at_builtin; refine Kd.R_append (Kd.int .u8) (w0 := w0) w0.heap.size rfl (.tmp 27) (.tmp 36) 77 5 (.int .u8 0) 1 rfl Try.underlying77 info5 rfl (by decide) (by omega) u0 x0_1 ((ji16) % 256) [.int .u8 ((ji16) % 256)] (fun k_ => (P0_ k_ ∨ w.heap.size ≤ k_)) (fun _ => False) rfl rfl ?aP (fun _ hk => hk.elim) ?aF ?aO ?aB ?aS ?aL ?_; (case aP => exact rfl); (case aB => exact (by repeat (first | (with_reducible first | exact HB.out | apply below_alloc | apply pw_below_drewN | apply below_drew1 | refine below_set ?_ GE107.out) | exact HB.out))); (case aF => exact (fun k_ hk => (.inr (Nat.le_trans (by first | exact HK.out.1 | exact (show Kept w _ (fun k_ => P0_ k_) from by repeat (first | (with_reducible first | exact HK.out | apply Kept.alloc | apply Kept.drewN | apply Kept.drew | refine Kept.setCell ?_ (.inr GW107.out) _) | exact HK.out)).1) hk)))); (case aO => exact (by (with_reducible repeat (first | apply Kd.R_alloc | apply Kd.R_drewN | apply Kd.R_drew)); exact HO_0.out)); (case aS => exact (below_size (by repeat (first | (with_reducible first | exact HB.out | apply below_alloc | apply pw_below_drewN | apply below_drew1 | refine below_set ?_ GE107.out) | exact HB.out)))); (case aL => have := LMc17.out; omega); intro v115 w19 ho hb hg hat; rw [← Ny114.out] at ho; have n0_ := Aside0.mk (blk_grown (g := gb107) (o := .cells #[.int .i64 a1_0, .int .i64 a1_1, .string a1_2] 33 (0, 0)) (by (with_reducible repeat (first | refine blk_drewN ?_ _ | refine blk_drew ?_ | refine blk_alloc ?_ _)); exact BK107.out) hg (Kd.R_ne HO_0.out BK107.out (by decide))); have n1_ := Aside0.mk (hb); have n2_ := Aside0.mk (Kept.of_grown (S := (fun k_ => P0_ k_)) hg (by repeat (first | (with_reducible first | exact HK.out | apply Kept.alloc | apply Kept.drewN | apply Kept.drew | refine Kept.setCell ?_ (.inr GW107.out) _) | exact HK.out)) (fun k_ e_ => (HO_0.out.1 k_ e_))); have n3_ := Aside0.mk (ho); clear BK107; clear HB; clear HK; clear HO_0; have BK107 := n0_; have HB := n1_; have HK := n2_; have HO116 := n3_; clear n0_ n1_ n2_ n3_; clear ho hb hg hat))
                  go_roundg k1
                  case measure => have := HK1.out; omega
                  case rel => exact ⟨(y114), (wrap64 (x5_1 - 1)), (by first | rfl | (simp; done) | (simp [*]; done)), H', ⟨by have := HK1.out; omega⟩, ⟨by (with_reducible repeat (first | apply Kd.R_alloc | apply Kd.R_drewN | apply Kd.R_drew)); exact HO116.out⟩, ⟨by (with_reducible repeat (first | refine blk_drewN ?_ _ | refine blk_drew ?_ | refine blk_alloc ?_ _)); exact BK107.out⟩, ⟨by repeat (first | (with_reducible first | exact HK.out | apply Kept.alloc | apply Kept.drewN | apply Kept.drew | refine Kept.setCell ?_ (.inr GW107.out) _) | exact HK.out)⟩, ⟨by repeat (first | (with_reducible first | exact HB.out | apply below_alloc | apply pw_below_drewN | apply below_drew1 | refine below_set ?_ GE107.out) | exact HB.out)⟩⟩
                · rw [if_neg c17] at H
                  exact absurd H (by simp)
              · rw [if_neg c15] at H
                exact absurd H (by simp)
            · rw [if_neg c13] at H
              have c13b0 : decide (0 ≤ x5_1) = false := decide_eq_false c13
              clear c13
              obtain rfl := Option.some.inj H
              go_wp2
              go_ret
              exact ⟨_, by first | rfl | (simp [errW_none, errW_some] <;> rfl) | (simp [*, errW_none, errW_some] <;> rfl), by (with_reducible repeat (first | apply Kd.R_alloc | apply Kd.R_drewN | apply Kd.R_drew)); exact HO_0.out, by repeat (first | (with_reducible first | exact HB.out | apply below_alloc | apply pw_below_drewN | apply below_drew1 | refine below_set ?_ GE107.out) | exact HB.out), by repeat (first | (with_reducible first | exact HK.out | apply Kept.alloc | apply Kept.drewN | apply Kept.drew | refine Kept.setCell ?_ (.inr GW107.out) _) | exact HK.out)⟩
      · rw [if_neg c9] at H
        exact absurd H (by simp)
    · rw [if_neg c8] at H
      have c8b0 : (a1_0 == 2) = false := beq_eq_false_iff_ne.mpr c8
      have c8b1 : (a1_0 != 2) = true := bne_iff_ne.mpr c8
      by_cases c20 : a1_0 = 3
      · rw [if_pos c20] at H
        have c20b0 : (a1_0 == 3) = true := beq_iff_eq.mpr c20
        have c20b1 : (a1_0 != 3) = false := bne_eq_false_iff_eq.mpr c20
        clear c20
        by_cases c21 : l0.length < 140737488355328
        · rw [if_pos c21] at H
          have LMc21 := Aside0.mk c21
          clear c21
          obtain ⟨y117, hy117⟩ : ∃ y_ : List Int, y_ = (l0 ++ [5]) := ⟨_, rfl⟩
          replace H : (code_put.l1 k y117 (a1_2.size : Int) 0 a1_0 a1_1 a1_2) = some r := by first | (rw [hy117]; with_reducible exact H) | (have H2_ := (Option.bind_some _ _).symm.trans H; rw [hy117]; with_reducible exact H2_) | (have H2_ := (Option.bind_some _ _).symm.trans H; with_reducible exact H2_) | with_reducible exact H | (rw [hy117]; exact H) | exact H
          have Ny117 := Aside0.mk hy117
          clear hy117
          have H' := Aside0.mk H
          clear H
          go_enter Try.func72, Try.ntmps72
          go_wp2_with (first | ((with_reducible refine gate_dst (N := 3) rfl ?_); refine box_event ?hg (N := 3) ?hd (cs := #[.int .i64 a1_0, .int .i64 a1_1, .string a1_2]) (t := 33) ?hr ?_; (case hd => rfl); (case hg => rfl); (case hr => first | (go_simp; done) | (go_simp; rfl)); intro gb107 hg w22 hbox hb; have n0_ := Aside0.mk (Kd.R_below (by (with_reducible repeat (first | apply Kd.R_alloc | apply Kd.R_drewN | apply Kd.R_drew)); exact HO0.out) hb); have n1_ := Aside0.mk (Kept.below (S := (fun k_ => P0_ k_)) (by repeat (first | (with_reducible first | exact HK.out | apply Kept.alloc | apply Kept.drewN | apply Kept.drew) | exact HK.out)) hb); have n2_ := Aside0.mk (below_step (by repeat (first | (with_reducible first | exact HB.out | apply below_alloc | apply pw_below_drewN | apply below_drew1) | exact HB.out)) hb); have n3_ := Aside0.mk (hbox); have n4_ := Aside0.mk ((by rw [hg]; exact (by first | exact HK.out.1 | exact (show Kept w _ (fun k_ => P0_ k_) from by repeat (first | (with_reducible first | exact HK.out | apply Kept.alloc | apply Kept.drewN | apply Kept.drew) | exact HK.out)).1) : w.heap.size ≤ gb107)); have n5_ := Aside0.mk ((by rw [hg]; exact (below_size (by repeat (first | (with_reducible first | exact HB.out | apply below_alloc | apply pw_below_drewN | apply below_drew1) | exact HB.out))) : w0.heap.size ≤ gb107)); clear HO0; clear HK; clear HB; have HO0 := n0_; have HK := n1_; have HB := n2_; have BK107 := n3_; have GW107 := n4_; have GE107 := n5_; clear n0_ n1_ n2_ n3_ n4_ n5_; clear hb hbox hg; have hcz23_0 : w22.cell? ⟨gb107, 0, none⟩ = some (.int .i64 a1_0) := (blk_cell BK107.out 0).trans rfl; have hcz23_1 : w22.cell? ⟨gb107, 1, none⟩ = some (.int .i64 a1_1) := (blk_cell BK107.out 1).trans rfl; have hcz23_2 : w22.cell? ⟨gb107, 2, none⟩ = some (.string a1_2) := (blk_cell BK107.out 2).trans rfl; have hfz23_0 := blk_frozen BK107.out 0; have hfz23_1 := blk_frozen BK107.out 1; have hfz23_2 := blk_frozen BK107.out 2) | ((with_reducible refine gate_builtin (b := .append) (xs := #[.tmp 41, .tmp 42]) rfl ?_); at_builtin; refine Kd.R_append (Kd.int .u8) (w0 := w0) w0.heap.size rfl (.tmp 41) (.tmp 42) 77 5 (.int .u8 0) 1 rfl Try.underlying77 info5 rfl (by decide) (by omega) u9000_ l0 5 [.int .u8 5] (fun k_ => (P0_ k_ ∨ w.heap.size ≤ k_)) (fun _ => False) rfl rfl ?aP (fun _ hk => hk.elim) ?aF ?aO ?aB ?aS ?aL ?_; (case aP => exact rfl); (case aB => exact (by repeat (first | (with_reducible first | exact HB.out | apply below_alloc | apply pw_below_drewN | apply below_drew1 | refine below_set ?_ GE107.out) | exact HB.out))); (case aF => exact (fun k_ hk => (.inr (Nat.le_trans (by first | exact HK.out.1 | exact (show Kept w _ (fun k_ => P0_ k_) from by repeat (first | (with_reducible first | exact HK.out | apply Kept.alloc | apply Kept.drewN | apply Kept.drew | refine Kept.setCell ?_ (.inr GW107.out) _) | exact HK.out)).1) hk)))); (case aO => exact (by (with_reducible repeat (first | apply Kd.R_alloc | apply Kd.R_drewN | apply Kd.R_drew)); exact HO0.out)); (case aS => exact (below_size (by repeat (first | (with_reducible first | exact HB.out | apply below_alloc | apply pw_below_drewN | apply below_drew1 | refine below_set ?_ GE107.out) | exact HB.out)))); (case aL => have := LMc21.out; omega); intro v118 w24 ho hb hg hat; rw [← Ny117.out] at ho; have n0_ := Aside0.mk (blk_grown (g := gb107) (o := .cells #[.int .i64 a1_0, .int .i64 a1_1, .string a1_2] 33 (0, 0)) (by (with_reducible repeat (first | refine blk_drewN ?_ _ | refine blk_drew ?_ | refine blk_alloc ?_ _)); exact BK107.out) hg (Kd.R_ne HO0.out BK107.out (by decide))); have n1_ := Aside0.mk (hb); have n2_ := Aside0.mk (Kept.of_grown (S := (fun k_ => P0_ k_)) hg (by repeat (first | (with_reducible first | exact HK.out | apply Kept.alloc | apply Kept.drewN | apply Kept.drew | refine Kept.setCell ?_ (.inr GW107.out) _) | exact HK.out)) (fun k_ e_ => (HO0.out.1 k_ e_))); have n3_ := Aside0.mk (ho); clear BK107; clear HB; clear HK; clear HO0; have BK107 := n0_; have HB := n1_; have HK := n2_; have HO119 := n3_; clear n0_ n1_ n2_ n3_; clear ho hb hg hat; have hcz25_0 : w24.cell? ⟨gb107, 0, none⟩ = some (.int .i64 a1_0) := (blk_cell BK107.out 0).trans rfl; have hcz25_1 : w24.cell? ⟨gb107, 1, none⟩ = some (.int .i64 a1_1) := (blk_cell BK107.out 1).trans rfl; have hcz25_2 : w24.cell? ⟨gb107, 2, none⟩ = some (.string a1_2) := (blk_cell BK107.out 2).trans rfl; have hfz25_0 := blk_frozen BK107.out 0; have hfz25_1 := blk_frozen BK107.out 1; have hfz25_2 := blk_frozen BK107.out 2))
          go_loopg [0, 47] k (fun kq v0 v47 w' => ∃ (x0_1 : List Int) (x47_1 : Int), v47 = .int .i64 x47_1 ∧ Aside0 (code_put.l1 kq x0_1 (a1_2.size : Int) x47_1 a1_0 a1_1 a1_2 = some r) ∧ Aside0 (kq ≤ k) ∧ Aside0 (Kd.R (Kd.int .u8) 5 w' w0.heap.size (fun k_ => (P0_ k_ ∨ w.heap.size ≤ k_)) v0 x0_1) ∧ Aside0 (w'.heap[gb107]? = some (.cells #[.int .i64 a1_0, .int .i64 a1_1, .string a1_2] 33 (0, 0))) ∧ Aside0 (Kept w w' (fun k_ => P0_ k_)) ∧ Aside0 (Below w0.heap.size w0 w'))
          case atStart => exact ⟨(y117), (0), (by first | rfl | (simp; done) | (simp [*]; done)), H', ⟨Nat.le_refl _⟩, ⟨by (with_reducible repeat (first | apply Kd.R_alloc | apply Kd.R_drewN | apply Kd.R_drew)); exact HO119.out⟩, ⟨by (with_reducible repeat (first | refine blk_drewN ?_ _ | refine blk_drew ?_ | refine blk_alloc ?_ _)); exact BK107.out⟩, ⟨by repeat (first | (with_reducible first | exact HK.out | apply Kept.alloc | apply Kept.drewN | apply Kept.drew | refine Kept.setCell ?_ (.inr GW107.out) _) | exact HK.out)⟩, ⟨by repeat (first | (with_reducible first | exact HB.out | apply below_alloc | apply pw_below_drewN | apply below_drew1 | refine below_set ?_ GE107.out) | exact HB.out)⟩⟩
          case round =>
            clear H'
            try clear c1
            try clear c2
            try clear p2
            try clear c3
            try clear c3b0
            try clear c3b1
            try clear c4
            try clear p6
            try clear c7
            try clear c8
            try clear c8b0
            try clear c8b1
            try clear c9
            try clear c13
            try clear c13b0
            try clear c15
            try clear c15b0
            try clear c15b1
            try clear c17
            try clear c20
            try clear c20b0
            try clear c20b1
            try clear c21
            try clear hcz11_0
            try clear hcz11_1
            try clear hcz11_2
            try clear hcz18_0
            try clear hcz18_1
            try clear hcz18_2
            try clear hcz23_0
            try clear hcz23_1
            try clear hcz23_2
            try clear hcz25_0
            try clear hcz25_1
            try clear hcz25_2
            try clear hcz6_0
            try clear hcz6_1
            try clear hcz6_2
            try clear hfz11_0
            try clear hfz11_1
            try clear hfz11_2
            try clear hfz18_0
            try clear hfz18_1
            try clear hfz18_2
            try clear hfz23_0
            try clear hfz23_1
            try clear hfz23_2
            try clear hfz25_0
            try clear hfz25_1
            try clear hfz25_2
            try clear hfz6_0
            try clear hfz6_1
            try clear hfz6_2
            try clear p2
            try clear p6
            obtain ⟨x0_1, x47_1, rfl, HA, HK1, HO_0, BK107, HK, HB⟩ := hrel
            cases gk with
            | zero => exact absurd HA.out (by simp [code_put.l1])
            | succ k1 =>
              have H := HA.out
              clear HA
              simp only [code_put.l1] at H
              by_cases c26 : x47_1 < (a1_2.size : Int)
              · rw [if_pos c26] at H
                have c26b0 : decide (x47_1 < (a1_2.size : Int)) = true := decide_eq_true c26
                clear c26
                by_cases c27 : 0 ≤ x47_1
                · rw [if_pos c27] at H
                  have c27b0 : decide (0 ≤ x47_1) = true := decide_eq_true c27
                  clear c27
                  by_cases c28 : x47_1 < (a1_2.size : Int)
                  · rw [if_pos c28] at H
                    have c28b0 : decide (x47_1 < (a1_2.size : Int)) = true := decide_eq_true c28
                    clear c28
                    by_cases c30 : x0_1.length < 140737488355328
                    · rw [if_pos c30] at H
                      have LMc30 := Aside0.mk c30
                      clear c30
                      obtain ⟨y120, hy120⟩ : ∃ y_ : List Int, y_ = (x0_1 ++ [bt a1_2 x47_1]) := ⟨_, rfl⟩
                      replace H : (if (bt a1_2 x47_1) = 0 then (if y120.length < 140737488355328 then (code_put.l1 k1 (y120 ++ [255]) (a1_2.size : Int) (wrap64 (x47_1 + 1)) a1_0 a1_1 a1_2) else (none)) else (code_put.l1 k1 y120 (a1_2.size : Int) (wrap64 (x47_1 + 1)) a1_0 a1_1 a1_2)) = some r := by first | (rw [hy120]; with_reducible exact H) | (have H2_ := (Option.bind_some _ _).symm.trans H; rw [hy120]; with_reducible exact H2_) | (have H2_ := (Option.bind_some _ _).symm.trans H; with_reducible exact H2_) | with_reducible exact H | (rw [hy120]; exact H) | exact H
                      have Ny120 := Aside0.mk hy120
                      clear hy120
                      by_cases c32 : (bt a1_2 x47_1) = 0
                      · rw [if_pos c32] at H
                        have c32b0 : ((bt a1_2 x47_1) == 0) = true := beq_iff_eq.mpr c32
                        have c32b1 : ((bt a1_2 x47_1) != 0) = false := bne_eq_false_iff_eq.mpr c32
                        clear c32
                        by_cases c33 : y120.length < 140737488355328
                        · rw [if_pos c33] at H
                          have LMc33 := Aside0.mk c33
                          clear c33
                          obtain ⟨y123, hy123⟩ : ∃ y_ : List Int, y_ = (y120 ++ [255]) := ⟨_, rfl⟩
                          replace H : (code_put.l1 k1 y123 (a1_2.size : Int) (wrap64 (x47_1 + 1)) a1_0 a1_1 a1_2) = some r := by first | (rw [hy123]; with_reducible exact H) | (have H2_ := (Option.bind_some _ _).symm.trans H; rw [hy123]; with_reducible exact H2_) | (have H2_ := (Option.bind_some _ _).symm.trans H; with_reducible exact H2_) | with_reducible exact H | (rw [hy123]; exact H) | exact H
                          have Ny123 := Aside0.mk hy123
                          clear hy123
                          have H' := Aside0.mk H
                          clear H
                          have hcz34_0 : wr.cell? ⟨gb107, 0, none⟩ = some (.int .i64 a1_0) := (blk_cell BK107.out 0).trans rfl
                          have hcz34_1 : wr.cell? ⟨gb107, 1, none⟩ = some (.int .i64 a1_1) := (blk_cell BK107.out 1).trans rfl
                          have hcz34_2 : wr.cell? ⟨gb107, 2, none⟩ = some (.string a1_2) := (blk_cell BK107.out 2).trans rfl
                          have hfz34_0 := blk_frozen BK107.out 0
                          have hfz34_1 := blk_frozen BK107.out 1
                          have hfz34_2 := blk_frozen BK107.out 2
                          have p29 : 0 ≤ (x47_1 : Int) := of_decide_eq_true (by first | (with_reducible assumption) | assumption)
                          have q29 : x47_1 < (a1_2.size : Int) := of_decide_eq_true (by first | (with_reducible assumption) | assumption)
                          have hx29 := bt_at a1_2 x47_1
                          replace p29 := eq_true p29
                          replace q29 := eq_true q29
                          go_wp2_with (first | ((with_reducible refine gate_builtin (b := .append) (xs := #[.tmp 50, .tmp 55]) rfl ?_); at_builtin; refine Kd.R_append (Kd.int .u8) (w0 := w0) w0.heap.size rfl (.tmp 50) (.tmp 55) 77 5 (.int .u8 0) 1 rfl Try.underlying77 info5 rfl (by decide) (by omega) u0 x0_1 (bt a1_2 x47_1) [.int .u8 (bt a1_2 x47_1)] (fun k_ => (P0_ k_ ∨ w.heap.size ≤ k_)) (fun _ => False) rfl rfl ?aP (fun _ hk => hk.elim) ?aF ?aO ?aB ?aS ?aL ?_; (case aP => exact rfl); (case aB => exact (by repeat (first | (with_reducible first | exact HB.out | apply below_alloc | apply pw_below_drewN | apply below_drew1 | refine below_set ?_ GE107.out) | exact HB.out))); (case aF => exact (fun k_ hk => (.inr (Nat.le_trans (by first | exact HK.out.1 | exact (show Kept w _ (fun k_ => P0_ k_) from by repeat (first | (with_reducible first | exact HK.out | apply Kept.alloc | apply Kept.drewN | apply Kept.drew | refine Kept.setCell ?_ (.inr GW107.out) _) | exact HK.out)).1) hk)))); (case aO => exact (by (with_reducible repeat (first | apply Kd.R_alloc | apply Kd.R_drewN | apply Kd.R_drew)); exact HO_0.out)); (case aS => exact (below_size (by repeat (first | (with_reducible first | exact HB.out | apply below_alloc | apply pw_below_drewN | apply below_drew1 | refine below_set ?_ GE107.out) | exact HB.out)))); (case aL => have := LMc30.out; omega); intro v121 w35 ho hb hg hat; rw [← Ny120.out] at ho; have n0_ := Aside0.mk (blk_grown (g := gb107) (o := .cells #[.int .i64 a1_0, .int .i64 a1_1, .string a1_2] 33 (0, 0)) (by (with_reducible repeat (first | refine blk_drewN ?_ _ | refine blk_drew ?_ | refine blk_alloc ?_ _)); exact BK107.out) hg (Kd.R_ne HO_0.out BK107.out (by decide))); have n1_ := Aside0.mk (hb); have n2_ := Aside0.mk (Kept.of_grown (S := (fun k_ => P0_ k_)) hg (by repeat (first | (with_reducible first | exact HK.out | apply Kept.alloc | apply Kept.drewN | apply Kept.drew | refine Kept.setCell ?_ (.inr GW107.out) _) | exact HK.out)) (fun k_ e_ => (HO_0.out.1 k_ e_))); have n3_ := Aside0.mk (ho); clear BK107; clear HB; clear HK; clear HO_0; have BK107 := n0_; have HB := n1_; have HK := n2_; have HO122 := n3_; clear n0_ n1_ n2_ n3_; clear ho hb hg hat; have hcz36_0 : w35.cell? ⟨gb107, 0, none⟩ = some (.int .i64 a1_0) := (blk_cell BK107.out 0).trans rfl; have hcz36_1 : w35.cell? ⟨gb107, 1, none⟩ = some (.int .i64 a1_1) := (blk_cell BK107.out 1).trans rfl; have hcz36_2 : w35.cell? ⟨gb107, 2, none⟩ = some (.string a1_2) := (blk_cell BK107.out 2).trans rfl; have hfz36_0 := blk_frozen BK107.out 0; have hfz36_1 := blk_frozen BK107.out 1; have hfz36_2 := blk_frozen BK107.out 2; have p31 : 0 ≤ (x47_1 : Int) := of_decide_eq_true (by first | (with_reducible assumption) | assumption); have q31 : x47_1 < (a1_2.size : Int) := of_decide_eq_true (by first | (with_reducible assumption) | assumption); have hx31 := bt_at a1_2 x47_1; replace p31 := eq_true p31; replace q31 := eq_true q31) | ((with_reducible refine gate_builtin (b := .append) (xs := #[.tmp 62, .tmp 63]) rfl ?_); at_builtin; refine Kd.R_append (Kd.int .u8) (w0 := w0) w0.heap.size rfl (.tmp 62) (.tmp 63) 77 5 (.int .u8 0) 1 rfl Try.underlying77 info5 rfl (by decide) (by omega) v121 y120 255 [.int .u8 255] (fun k_ => (P0_ k_ ∨ w.heap.size ≤ k_)) (fun _ => False) rfl rfl ?aP (fun _ hk => hk.elim) ?aF ?aO ?aB ?aS ?aL ?_; (case aP => exact rfl); (case aB => exact (by repeat (first | (with_reducible first | exact HB.out | apply below_alloc | apply pw_below_drewN | apply below_drew1 | refine below_set ?_ GE107.out) | exact HB.out))); (case aF => exact (fun k_ hk => (.inr (Nat.le_trans (by first | exact HK.out.1 | exact (show Kept w _ (fun k_ => P0_ k_) from by repeat (first | (with_reducible first | exact HK.out | apply Kept.alloc | apply Kept.drewN | apply Kept.drew | refine Kept.setCell ?_ (.inr GW107.out) _) | exact HK.out)).1) hk)))); (case aO => exact (by (with_reducible repeat (first | apply Kd.R_alloc | apply Kd.R_drewN | apply Kd.R_drew)); exact HO122.out)); (case aS => exact (below_size (by repeat (first | (with_reducible first | exact HB.out | apply below_alloc | apply pw_below_drewN | apply below_drew1 | refine below_set ?_ GE107.out) | exact HB.out)))); (case aL => have := LMc33.out; omega); intro v124 w37 ho hb hg hat; rw [← Ny123.out] at ho; have n0_ := Aside0.mk (blk_grown (g := gb107) (o := .cells #[.int .i64 a1_0, .int .i64 a1_1, .string a1_2] 33 (0, 0)) (by (with_reducible repeat (first | refine blk_drewN ?_ _ | refine blk_drew ?_ | refine blk_alloc ?_ _)); exact BK107.out) hg (Kd.R_ne HO122.out BK107.out (by decide))); have n1_ := Aside0.mk (hb); have n2_ := Aside0.mk (Kept.of_grown (S := (fun k_ => P0_ k_)) hg (by repeat (first | (with_reducible first | exact HK.out | apply Kept.alloc | apply Kept.drewN | apply Kept.drew | refine Kept.setCell ?_ (.inr GW107.out) _) | exact HK.out)) (fun k_ e_ => (HO122.out.1 k_ e_))); have n3_ := Aside0.mk (ho); clear BK107; clear HB; clear HK; clear HO122; have BK107 := n0_; have HB := n1_; have HK := n2_; have HO125 := n3_; clear n0_ n1_ n2_ n3_; clear ho hb hg hat))
                          go_roundg k1
                          case measure => have := HK1.out; omega
                          case rel => exact ⟨(y123), (wrap64 (x47_1 + 1)), (by first | rfl | (simp; done) | (simp [*]; done)), H', ⟨by have := HK1.out; omega⟩, ⟨by (with_reducible repeat (first | apply Kd.R_alloc | apply Kd.R_drewN | apply Kd.R_drew)); exact HO125.out⟩, ⟨by (with_reducible repeat (first | refine blk_drewN ?_ _ | refine blk_drew ?_ | refine blk_alloc ?_ _)); exact BK107.out⟩, ⟨by repeat (first | (with_reducible first | exact HK.out | apply Kept.alloc | apply Kept.drewN | apply Kept.drew | refine Kept.setCell ?_ (.inr GW107.out) _) | exact HK.out)⟩, ⟨by repeat (first | (with_reducible first | exact HB.out | apply below_alloc | apply pw_below_drewN | apply below_drew1 | refine below_set ?_ GE107.out) | exact HB.out)⟩⟩
                        · rw [if_neg c33] at H
                          exact absurd H (by simp)
                      · rw [if_neg c32] at H
                        have c32b0 : ((bt a1_2 x47_1) == 0) = false := beq_eq_false_iff_ne.mpr c32
                        have c32b1 : ((bt a1_2 x47_1) != 0) = true := bne_iff_ne.mpr c32
                        have H' := Aside0.mk H
                        clear H
                        have hcz38_0 : wr.cell? ⟨gb107, 0, none⟩ = some (.int .i64 a1_0) := (blk_cell BK107.out 0).trans rfl
                        have hcz38_1 : wr.cell? ⟨gb107, 1, none⟩ = some (.int .i64 a1_1) := (blk_cell BK107.out 1).trans rfl
                        have hcz38_2 : wr.cell? ⟨gb107, 2, none⟩ = some (.string a1_2) := (blk_cell BK107.out 2).trans rfl
                        have hfz38_0 := blk_frozen BK107.out 0
                        have hfz38_1 := blk_frozen BK107.out 1
                        have hfz38_2 := blk_frozen BK107.out 2
                        have p29 : 0 ≤ (x47_1 : Int) := of_decide_eq_true (by first | (with_reducible assumption) | assumption)
                        have q29 : x47_1 < (a1_2.size : Int) := of_decide_eq_true (by first | (with_reducible assumption) | assumption)
                        have hx29 := bt_at a1_2 x47_1
                        replace p29 := eq_true p29
                        replace q29 := eq_true q29
                        go_wp2_with (first | ((with_reducible refine gate_builtin (b := .append) (xs := #[.tmp 50, .tmp 55]) rfl ?_); at_builtin; refine Kd.R_append (Kd.int .u8) (w0 := w0) w0.heap.size rfl (.tmp 50) (.tmp 55) 77 5 (.int .u8 0) 1 rfl Try.underlying77 info5 rfl (by decide) (by omega) u0 x0_1 (bt a1_2 x47_1) [.int .u8 (bt a1_2 x47_1)] (fun k_ => (P0_ k_ ∨ w.heap.size ≤ k_)) (fun _ => False) rfl rfl ?aP (fun _ hk => hk.elim) ?aF ?aO ?aB ?aS ?aL ?_; (case aP => exact rfl); (case aB => exact (by repeat (first | (with_reducible first | exact HB.out | apply below_alloc | apply pw_below_drewN | apply below_drew1 | refine below_set ?_ GE107.out) | exact HB.out))); (case aF => exact (fun k_ hk => (.inr (Nat.le_trans (by first | exact HK.out.1 | exact (show Kept w _ (fun k_ => P0_ k_) from by repeat (first | (with_reducible first | exact HK.out | apply Kept.alloc | apply Kept.drewN | apply Kept.drew | refine Kept.setCell ?_ (.inr GW107.out) _) | exact HK.out)).1) hk)))); (case aO => exact (by (with_reducible repeat (first | apply Kd.R_alloc | apply Kd.R_drewN | apply Kd.R_drew)); exact HO_0.out)); (case aS => exact (below_size (by repeat (first | (with_reducible first | exact HB.out | apply below_alloc | apply pw_below_drewN | apply below_drew1 | refine below_set ?_ GE107.out) | exact HB.out)))); (case aL => have := LMc30.out; omega); intro v121 w39 ho hb hg hat; rw [← Ny120.out] at ho; have n0_ := Aside0.mk (blk_grown (g := gb107) (o := .cells #[.int .i64 a1_0, .int .i64 a1_1, .string a1_2] 33 (0, 0)) (by (with_reducible repeat (first | refine blk_drewN ?_ _ | refine blk_drew ?_ | refine blk_alloc ?_ _)); exact BK107.out) hg (Kd.R_ne HO_0.out BK107.out (by decide))); have n1_ := Aside0.mk (hb); have n2_ := Aside0.mk (Kept.of_grown (S := (fun k_ => P0_ k_)) hg (by repeat (first | (with_reducible first | exact HK.out | apply Kept.alloc | apply Kept.drewN | apply Kept.drew | refine Kept.setCell ?_ (.inr GW107.out) _) | exact HK.out)) (fun k_ e_ => (HO_0.out.1 k_ e_))); have n3_ := Aside0.mk (ho); clear BK107; clear HB; clear HK; clear HO_0; have BK107 := n0_; have HB := n1_; have HK := n2_; have HO122 := n3_; clear n0_ n1_ n2_ n3_; clear ho hb hg hat; have hcz40_0 : w39.cell? ⟨gb107, 0, none⟩ = some (.int .i64 a1_0) := (blk_cell BK107.out 0).trans rfl; have hcz40_1 : w39.cell? ⟨gb107, 1, none⟩ = some (.int .i64 a1_1) := (blk_cell BK107.out 1).trans rfl; have hcz40_2 : w39.cell? ⟨gb107, 2, none⟩ = some (.string a1_2) := (blk_cell BK107.out 2).trans rfl; have hfz40_0 := blk_frozen BK107.out 0; have hfz40_1 := blk_frozen BK107.out 1; have hfz40_2 := blk_frozen BK107.out 2; have p31 : 0 ≤ (x47_1 : Int) := of_decide_eq_true (by first | (with_reducible assumption) | assumption); have q31 : x47_1 < (a1_2.size : Int) := of_decide_eq_true (by first | (with_reducible assumption) | assumption); have hx31 := bt_at a1_2 x47_1; replace p31 := eq_true p31; replace q31 := eq_true q31))
                        go_roundg k1
                        case measure => have := HK1.out; omega
                        case rel => exact ⟨(y120), (wrap64 (x47_1 + 1)), (by first | rfl | (simp; done) | (simp [*]; done)), H', ⟨by have := HK1.out; omega⟩, ⟨by (with_reducible repeat (first | apply Kd.R_alloc | apply Kd.R_drewN | apply Kd.R_drew)); exact HO122.out⟩, ⟨by (with_reducible repeat (first | refine blk_drewN ?_ _ | refine blk_drew ?_ | refine blk_alloc ?_ _)); exact BK107.out⟩, ⟨by repeat (first | (with_reducible first | exact HK.out | apply Kept.alloc | apply Kept.drewN | apply Kept.drew | refine Kept.setCell ?_ (.inr GW107.out) _) | exact HK.out)⟩, ⟨by repeat (first | (with_reducible first | exact HB.out | apply below_alloc | apply pw_below_drewN | apply below_drew1 | refine below_set ?_ GE107.out) | exact HB.out)⟩⟩
                    · rw [if_neg c30] at H
                      exact absurd H (by simp)
                  · rw [if_neg c28] at H
                    exact absurd H (by simp)
                · rw [if_neg c27] at H
                  exact absurd H (by simp)
              · rw [if_neg c26] at H
                have c26b0 : decide (x47_1 < (a1_2.size : Int)) = false := decide_eq_false c26
                clear c26
                obtain ⟨y126, hy126⟩ : ∃ y_ : List Int, y_ = (([0, 0] : List Int)) := ⟨_, rfl⟩
                replace H : (if x0_1.length + y126.length < 140737488355328 then (some (x0_1 ++ y126)) else (none)) = some r := by first | (rw [hy126]; with_reducible exact H) | (have H2_ := (Option.bind_some _ _).symm.trans H; rw [hy126]; with_reducible exact H2_) | (have H2_ := (Option.bind_some _ _).symm.trans H; with_reducible exact H2_) | with_reducible exact H | (rw [hy126]; exact H) | exact H
                have Ny126 := Aside0.mk hy126
                clear hy126
                by_cases c41 : x0_1.length + y126.length < 140737488355328
                · rw [if_pos c41] at H
                  have LMc41 := Aside0.mk c41
                  clear c41
                  obtain ⟨y129, hy129⟩ : ∃ y_ : List Int, y_ = (x0_1 ++ y126) := ⟨_, rfl⟩
                  replace H : (some y129) = some r := by first | (rw [hy129]; with_reducible exact H) | (have H2_ := (Option.bind_some _ _).symm.trans H; rw [hy129]; with_reducible exact H2_) | (have H2_ := (Option.bind_some _ _).symm.trans H; with_reducible exact H2_) | with_reducible exact H | (rw [hy129]; exact H) | exact H
                  have Ny129 := Aside0.mk hy129
                  clear hy129
                  obtain rfl := Option.some.inj H
                  go_wp2_with (first | ((with_reducible refine gate_dst (N := 67) rfl ?_); refine Kd.R_lit (Kd.int .u8) _ 5 ?hg (N := 67) ?hd (xs := ([0, 0] : List Int)) (inner := [.int .u8 0, .int .u8 0]) (ok := fun _ => True) (okp := fun _ => True) ?hr ?hp (fun _ hk => hk) trivial (Below.refl _ _) (Nat.le_refl _) (by simp) ?_; (case hd => rfl); (case hg => rfl); (case hr => first | (go_simp; done) | (go_simp; rfl)); (case hp => exact (Reps.one (show Kd.M (Kd.int .u8) _ _ _ 0 [.int .u8 0] from rfl) (Reps.one (show Kd.M (Kd.int .u8) _ _ _ 0 [.int .u8 0] from rfl) (Reps.none _ _)))); intro v127 w42 ho43 hb hg_ hnew_; clear hg_ hnew_; (first | rw [← Ny126.out] at ho43 | (simp only [Int.reduceToNat] at ho43; rw [← Ny126.out] at ho43)); have n0_ := Aside0.mk (Kd.R_elder' (by (with_reducible repeat (first | apply Kd.R_alloc | apply Kd.R_drewN | apply Kd.R_drew)); exact HO_0.out) (Kd.R_base ho43) hb); have n1_ := Aside0.mk (Kd.R_lower (Kd.R_new' (Kd.R_newM (M := fun k_ => (P0_ k_ ∨ w.heap.size ≤ k_)) ho43 (by first | exact HK.out.1 | exact (show Kept w _ (fun k_ => P0_ k_) from by repeat (first | (with_reducible first | exact HK.out | apply Kept.alloc | apply Kept.drewN | apply Kept.drew | refine Kept.setCell ?_ (.inr GW107.out) _) | exact HK.out)).1) (fun k_ h_ => .inr h_)) (Kd.R_lt (by (with_reducible repeat (first | apply Kd.R_alloc | apply Kd.R_drewN | apply Kd.R_drew)); exact HO_0.out))) (below_size (by repeat (first | (with_reducible first | exact HB.out | apply below_alloc | apply pw_below_drewN | apply below_drew1 | refine below_set ?_ GE107.out) | exact HB.out)))); have n2_ := Aside0.mk (blk_below (g := gb107) (o := .cells #[.int .i64 a1_0, .int .i64 a1_1, .string a1_2] 33 (0, 0)) (by (with_reducible repeat (first | refine blk_drewN ?_ _ | refine blk_drew ?_ | refine blk_alloc ?_ _)); exact BK107.out) hb); have n3_ := Aside0.mk (Kept.below (S := (fun k_ => P0_ k_)) (by repeat (first | (with_reducible first | exact HK.out | apply Kept.alloc | apply Kept.drewN | apply Kept.drew | refine Kept.setCell ?_ (.inr GW107.out) _) | exact HK.out)) hb); have n4_ := Aside0.mk (below_step (by repeat (first | (with_reducible first | exact HB.out | apply below_alloc | apply pw_below_drewN | apply below_drew1 | refine below_set ?_ GE107.out) | exact HB.out)) hb); clear HO_0; clear BK107; clear HK; clear HB; have HO_0 := n0_; have HO128 := n1_; have BK107 := n2_; have HK := n3_; have HB := n4_; clear n0_ n1_ n2_ n3_ n4_; clear hb ho43; obtain ⟨Ao45, co45, eo45⟩ := Kd.R_slice HO128.out; subst eo45) | ((with_reducible refine gate_builtin (b := .append) (xs := #[.tmp 66, .tmp 67]) rfl ?_); at_builtin; refine Kd.R_append_rows (Kd.int .u8) (w0 := w0) w0.heap.size rfl (.tmp 66) (.tmp 67) 77 5 (.int .u8 0) 1 rfl Try.underlying77 info5 rfl (by decide) (by omega) u0 x0_1 y126 _ _ _ (fun k_ => (P0_ k_ ∨ w.heap.size ≤ k_) ∧ some k_ ≠ (.slice Ao45 y126.length co45 : Value).ownBlock) (fun _ => False) rfl rfl ?aO ?aR (fun _ _ h => h) (fun _ h => h.elim) ?aF ?aB ?aS ?aL ?_; (case aR => repeat (first | exact (Kd.R_reads' HO128.out).2.2 | (with_reducible refine Kd.C_alloc ?_ _) | (with_reducible refine Kd.C_drewN ?_ _) | (with_reducible refine Kd.C_drew ?_))); (case aB => exact (by repeat (first | (with_reducible first | exact HB.out | apply below_alloc | apply pw_below_drewN | apply below_drew1 | refine below_set ?_ GE107.out) | exact HB.out))); (case aF => exact (fun k_ hk => ⟨(.inr (Nat.le_trans (by first | exact HK.out.1 | exact (show Kept w _ (fun k_ => P0_ k_) from by repeat (first | (with_reducible first | exact HK.out | apply Kept.alloc | apply Kept.drewN | apply Kept.drew | refine Kept.setCell ?_ (.inr GW107.out) _) | exact HK.out)).1) hk)), Kd.fresh' (Kd.R_lt (by (with_reducible repeat (first | apply Kd.R_alloc | apply Kd.R_drewN | apply Kd.R_drew)); exact HO128.out)) k_ hk⟩)); (case aO => exact (by (with_reducible repeat (first | apply Kd.R_alloc | apply Kd.R_drewN | apply Kd.R_drew)); exact HO_0.out)); (case aS => exact (below_size (by repeat (first | (with_reducible first | exact HB.out | apply below_alloc | apply pw_below_drewN | apply below_drew1 | refine below_set ?_ GE107.out) | exact HB.out)))); (case aL => have := LMc41.out; omega); intro v130 w44 ho hb hg hat; rw [← Ny129.out] at ho; have n0_ := Aside0.mk (blk_grown (g := gb107) (o := .cells #[.int .i64 a1_0, .int .i64 a1_1, .string a1_2] 33 (0, 0)) (by (with_reducible repeat (first | refine blk_drewN ?_ _ | refine blk_drew ?_ | refine blk_alloc ?_ _)); exact BK107.out) hg (Kd.R_ne HO_0.out BK107.out (by decide))); have n1_ := Aside0.mk (Kd.R_after (ok := (fun k_ => (P0_ k_ ∨ w.heap.size ≤ k_))) (by (with_reducible repeat (first | apply Kd.R_alloc | apply Kd.R_drewN | apply Kd.R_drew)); exact Kd.R_mono HO128.out (fun _ hk => ⟨hk.1.1, hk.2⟩)) hg hat); have n2_ := Aside0.mk (hb); have n3_ := Aside0.mk (Kept.of_grown (S := (fun k_ => P0_ k_)) hg (by repeat (first | (with_reducible first | exact HK.out | apply Kept.alloc | apply Kept.drewN | apply Kept.drew | refine Kept.setCell ?_ (.inr GW107.out) _) | exact HK.out)) (fun k_ e_ => (HO_0.out.1 k_ e_).1)); have n4_ := Aside0.mk (ho); clear BK107; clear HO128; clear HB; clear HK; clear HO_0; have BK107 := n0_; have HO128 := n1_; have HB := n2_; have HK := n3_; have HO131 := n4_; clear n0_ n1_ n2_ n3_ n4_; clear ho hb hg hat))
                  go_ret
                  exact ⟨_, by first | rfl | (simp [errW_none, errW_some] <;> rfl) | (simp [*, errW_none, errW_some] <;> rfl), by (with_reducible repeat (first | apply Kd.R_alloc | apply Kd.R_drewN | apply Kd.R_drew)); exact Kd.R_mono HO131.out (fun _ hk => hk.1), by repeat (first | (with_reducible first | exact HB.out | apply below_alloc | apply pw_below_drewN | apply below_drew1 | refine below_set ?_ GE107.out) | exact HB.out), by repeat (first | (with_reducible first | exact HK.out | apply Kept.alloc | apply Kept.drewN | apply Kept.drew | refine Kept.setCell ?_ (.inr GW107.out) _) | exact HK.out)⟩
                · rw [if_neg c41] at H
                  exact absurd H (by simp)
        · rw [if_neg c21] at H
          exact absurd H (by simp)
      · rw [if_neg c20] at H
        have c20b0 : (a1_0 == 3) = false := beq_eq_false_iff_ne.mpr c20
        have c20b1 : (a1_0 != 3) = true := bne_iff_ne.mpr c20
        by_cases c46 : l0.length < 140737488355328
        · rw [if_pos c46] at H
          have LMc46 := Aside0.mk c46
          clear c46
          obtain ⟨y132, hy132⟩ : ∃ y_ : List Int, y_ = (l0 ++ [1]) := ⟨_, rfl⟩
          replace H : (some y132) = some r := by first | (rw [hy132]; with_reducible exact H) | (have H2_ := (Option.bind_some _ _).symm.trans H; rw [hy132]; with_reducible exact H2_) | (have H2_ := (Option.bind_some _ _).symm.trans H; with_reducible exact H2_) | with_reducible exact H | (rw [hy132]; exact H) | exact H
          have Ny132 := Aside0.mk hy132
          clear hy132
          obtain rfl := Option.some.inj H
          go_enter Try.func72, Try.ntmps72
          go_wp2_with (first | ((with_reducible refine gate_dst (N := 3) rfl ?_); refine box_event ?hg (N := 3) ?hd (cs := #[.int .i64 a1_0, .int .i64 a1_1, .string a1_2]) (t := 33) ?hr ?_; (case hd => rfl); (case hg => rfl); (case hr => first | (go_simp; done) | (go_simp; rfl)); intro gb107 hg w47 hbox hb; have n0_ := Aside0.mk (Kd.R_below (by (with_reducible repeat (first | apply Kd.R_alloc | apply Kd.R_drewN | apply Kd.R_drew)); exact HO0.out) hb); have n1_ := Aside0.mk (Kept.below (S := (fun k_ => P0_ k_)) (by repeat (first | (with_reducible first | exact HK.out | apply Kept.alloc | apply Kept.drewN | apply Kept.drew) | exact HK.out)) hb); have n2_ := Aside0.mk (below_step (by repeat (first | (with_reducible first | exact HB.out | apply below_alloc | apply pw_below_drewN | apply below_drew1) | exact HB.out)) hb); have n3_ := Aside0.mk (hbox); have n4_ := Aside0.mk ((by rw [hg]; exact (by first | exact HK.out.1 | exact (show Kept w _ (fun k_ => P0_ k_) from by repeat (first | (with_reducible first | exact HK.out | apply Kept.alloc | apply Kept.drewN | apply Kept.drew) | exact HK.out)).1) : w.heap.size ≤ gb107)); have n5_ := Aside0.mk ((by rw [hg]; exact (below_size (by repeat (first | (with_reducible first | exact HB.out | apply below_alloc | apply pw_below_drewN | apply below_drew1) | exact HB.out))) : w0.heap.size ≤ gb107)); clear HO0; clear HK; clear HB; have HO0 := n0_; have HK := n1_; have HB := n2_; have BK107 := n3_; have GW107 := n4_; have GE107 := n5_; clear n0_ n1_ n2_ n3_ n4_ n5_; clear hb hbox hg; have hcz48_0 : w47.cell? ⟨gb107, 0, none⟩ = some (.int .i64 a1_0) := (blk_cell BK107.out 0).trans rfl; have hcz48_1 : w47.cell? ⟨gb107, 1, none⟩ = some (.int .i64 a1_1) := (blk_cell BK107.out 1).trans rfl; have hcz48_2 : w47.cell? ⟨gb107, 2, none⟩ = some (.string a1_2) := (blk_cell BK107.out 2).trans rfl; have hfz48_0 := blk_frozen BK107.out 0; have hfz48_1 := blk_frozen BK107.out 1; have hfz48_2 := blk_frozen BK107.out 2) | ((with_reducible refine gate_builtin (b := .append) (xs := #[.tmp 69, .tmp 70]) rfl ?_); at_builtin; refine Kd.R_append (Kd.int .u8) (w0 := w0) w0.heap.size rfl (.tmp 69) (.tmp 70) 77 5 (.int .u8 0) 1 rfl Try.underlying77 info5 rfl (by decide) (by omega) u9000_ l0 1 [.int .u8 1] (fun k_ => (P0_ k_ ∨ w.heap.size ≤ k_)) (fun _ => False) rfl rfl ?aP (fun _ hk => hk.elim) ?aF ?aO ?aB ?aS ?aL ?_; (case aP => exact rfl); (case aB => exact (by repeat (first | (with_reducible first | exact HB.out | apply below_alloc | apply pw_below_drewN | apply below_drew1 | refine below_set ?_ GE107.out) | exact HB.out))); (case aF => exact (fun k_ hk => (.inr (Nat.le_trans (by first | exact HK.out.1 | exact (show Kept w _ (fun k_ => P0_ k_) from by repeat (first | (with_reducible first | exact HK.out | apply Kept.alloc | apply Kept.drewN | apply Kept.drew | refine Kept.setCell ?_ (.inr GW107.out) _) | exact HK.out)).1) hk)))); (case aO => exact (by (with_reducible repeat (first | apply Kd.R_alloc | apply Kd.R_drewN | apply Kd.R_drew)); exact HO0.out)); (case aS => exact (below_size (by repeat (first | (with_reducible first | exact HB.out | apply below_alloc | apply pw_below_drewN | apply below_drew1 | refine below_set ?_ GE107.out) | exact HB.out)))); (case aL => have := LMc46.out; omega); intro v133 w49 ho hb hg hat; rw [← Ny132.out] at ho; have n0_ := Aside0.mk (blk_grown (g := gb107) (o := .cells #[.int .i64 a1_0, .int .i64 a1_1, .string a1_2] 33 (0, 0)) (by (with_reducible repeat (first | refine blk_drewN ?_ _ | refine blk_drew ?_ | refine blk_alloc ?_ _)); exact BK107.out) hg (Kd.R_ne HO0.out BK107.out (by decide))); have n1_ := Aside0.mk (hb); have n2_ := Aside0.mk (Kept.of_grown (S := (fun k_ => P0_ k_)) hg (by repeat (first | (with_reducible first | exact HK.out | apply Kept.alloc | apply Kept.drewN | apply Kept.drew | refine Kept.setCell ?_ (.inr GW107.out) _) | exact HK.out)) (fun k_ e_ => (HO0.out.1 k_ e_))); have n3_ := Aside0.mk (ho); clear BK107; clear HB; clear HK; clear HO0; have BK107 := n0_; have HB := n1_; have HK := n2_; have HO134 := n3_; clear n0_ n1_ n2_ n3_; clear ho hb hg hat))
          go_ret
          exact ⟨_, by first | rfl | (simp [errW_none, errW_some] <;> rfl) | (simp [*, errW_none, errW_some] <;> rfl), by (with_reducible repeat (first | apply Kd.R_alloc | apply Kd.R_drewN | apply Kd.R_drew)); exact HO134.out, by repeat (first | (with_reducible first | exact HB.out | apply below_alloc | apply pw_below_drewN | apply below_drew1 | refine below_set ?_ GE107.out) | exact HB.out), by repeat (first | (with_reducible first | exact HK.out | apply Kept.alloc | apply Kept.drewN | apply Kept.drew | refine Kept.setCell ?_ (.inr GW107.out) _) | exact HK.out)⟩
        · rw [if_neg c46] at H
          exact absurd H (by simp)
mutual
def code_Encode.l0 : Nat → List (S33) → List (S33) → Int → Int → Option (ByteArray × Int)
  | 0, _, _, _, _ => none
  | k + 1, x0, x10, x11, x12 => if x12 < x11 then (if 0 ≤ x12 then (if x12 < (x10.length : Int) then ((value_Right.f k ((rd_T33 x10 x12).f0) ((rd_T33 x10 x12).f1) ((rd_T33 x10 x12).f2)).bind fun t137 => (if t137 = 0 then (code_Encode.l0 k x0 x10 x11 (wrap64 (x12 + 1))) else (some ((⟨#[]⟩ : ByteArray), t137)))) else (none)) else (none)) else (if (x0.length : Int) > 40 then (some ((⟨#[]⟩ : ByteArray), 8)) else (code_Encode.l1 k ([] : List Int) x0 (x0.length : Int) 0))
def code_Encode.l1 : Nat → List Int → List (S33) → Int → Int → Option (ByteArray × Int)
  | 0, _, _, _, _ => none
  | k + 1, x4, x25, x26, x27 => if x27 < x26 then (if 0 ≤ x27 then (if x27 < (x25.length : Int) then ((code_put.f k x4 ((rd_T33 x25 x27).f0) ((rd_T33 x25 x27).f1) ((rd_T33 x25 x27).f2)).bind fun t140 => (code_Encode.l1 k t140 x25 x26 (wrap64 (x27 + 1)))) else (none)) else (none)) else (some (strOfNums x4, 0))
end
def code_Encode.f (k : Nat) (l0 : List (S33)) : Option (ByteArray × Int) := code_Encode.l0 k l0 l0 (l0.length : Int) 0
set_option maxHeartbeats 8000000 in
set_option maxRecDepth 100000 in
theorem code_Encode.calls (k : Nat) (A0 : Option Addr) (c0 : Nat) (l0 : List (S33)) (r1 : ByteArray) (r2 : Int) (w : World) (hr0 : Kd.C k33 w A0 l0.length l0) (hc0 : l0.length ≤ c0) (h : code_Encode.f k l0 = some (r1, r2)) :
    Calls Try.prog 21 #[.slice A0 l0.length c0] w fun e w' => e = .returned (.tuple #[.string r1, .int .i64 r2]) ∧ Below w.heap.size w w' := by
  have hu33 := Try.underlying33
  have HR0 := Aside0.mk hr0
  have HC0 := Aside0.mk hc0
  clear hr0 hc0
  have HB := Aside0.mk (Below.refl w.heap.size w)
  have H : (code_Encode.l0 k l0 l0 (l0.length : Int) 0) = some (r1, r2) := h
  clear h
  have H' := Aside0.mk H
  clear H
  go_enter Try.func21, Try.ntmps21
  go_wp2
  go_loopg [12] k (fun kq v12 w' => ∃ (x12_1 : Int), v12 = .int .i64 x12_1 ∧ Aside0 (code_Encode.l0 kq l0 l0 (l0.length : Int) x12_1 = some (r1, r2)) ∧ Aside0 (kq ≤ k) ∧ Aside0 (Below w.heap.size w w'))
  case atStart => exact ⟨(0), (by first | rfl | (simp; done) | (simp [*]; done)), H', ⟨Nat.le_refl _⟩, ⟨by repeat (first | (with_reducible first | exact HB.out | apply below_alloc | apply pw_below_drewN | apply below_drew1) | exact HB.out)⟩⟩
  case round =>
    clear H'
    obtain ⟨x12_1, rfl, HA, HK1, HB⟩ := hrel
    cases gk with
    | zero => exact absurd HA.out (by simp [code_Encode.l0])
    | succ k1 =>
      have H := HA.out
      clear HA
      simp only [code_Encode.l0] at H
      by_cases c2 : x12_1 < (l0.length : Int)
      · rw [if_pos c2] at H
        have c2b0 : decide (x12_1 < (l0.length : Int)) = true := decide_eq_true c2
        clear c2
        by_cases c3 : 0 ≤ x12_1
        · rw [if_pos c3] at H
          have c3b0 : decide (0 ≤ x12_1) = true := decide_eq_true c3
          clear c3
          by_cases c4 : x12_1 < (l0.length : Int)
          · rw [if_pos c4] at H
            have c4b0 : decide (x12_1 < (l0.length : Int)) = true := decide_eq_true c4
            clear c4
            replace H := Option.bind_eq_some_iff.mp H
            obtain ⟨t137, A50, H⟩ := H
            replace H : (if t137 = 0 then (code_Encode.l0 k1 l0 l0 (l0.length : Int) (wrap64 (x12_1 + 1))) else (some ((⟨#[]⟩ : ByteArray), t137))) = some (r1, r2) := H
            have A5 := Aside0.mk A50
            clear A50
            by_cases c6 : t137 = 0
            · rw [if_pos c6] at H
              have c6b0 : (t137 == 0) = true := beq_iff_eq.mpr c6
              have c6b1 : (t137 != 0) = false := bne_eq_false_iff_eq.mpr c6
              clear c6
              have H' := Aside0.mk H
              clear H
              have p135 : 0 ≤ (x12_1 : Int) := of_decide_eq_true (by first | (with_reducible assumption) | assumption)
              have q135 : x12_1 < (l0.length : Int) := of_decide_eq_true (by first | (with_reducible assumption) | assumption)
              obtain ⟨ad135, e135, hx135_0, hx135_1, hx135_2⟩ := at_T33 HR0.out x12_1 p135 q135
              cases e135
              replace hx135_0 := (HB.out.cell (World.block_lt_of_cell? w _ hx135_0)).trans hx135_0
              replace hx135_1 := (HB.out.cell (World.block_lt_of_cell? w _ hx135_1)).trans hx135_1
              replace hx135_2 := (HB.out.cell (World.block_lt_of_cell? w _ hx135_2)).trans hx135_2
              replace p135 := eq_true p135
              replace q135 := eq_true q135
              go_wp2_with (first | ((with_reducible refine gate_dst (N := 6) rfl ?_); refine box_event ?hg (N := 6) ?hd (cs := #[.int .i64 0, .int .i64 0, .string (⟨#[]⟩ : ByteArray)]) (t := 33) ?hr ?_; (case hd => rfl); (case hg => rfl); (case hr => first | (go_simp; done) | (go_simp; rfl)); intro gb136 hg w7 hbox hb; have n0_ := Aside0.mk (below_step (by repeat (first | (with_reducible first | exact HB.out | apply below_alloc | apply pw_below_drewN | apply below_drew1) | exact HB.out)) hb); have n1_ := Aside0.mk (hbox); have n2_ := Aside0.mk ((by rw [hg]; exact (below_size (by repeat (first | (with_reducible first | exact HB.out | apply below_alloc | apply pw_below_drewN | apply below_drew1) | exact HB.out))) : w.heap.size ≤ gb136)); have n3_ := Aside0.mk ((by rw [hg]; exact (below_size (by repeat (first | (with_reducible first | exact HB.out | apply below_alloc | apply pw_below_drewN | apply below_drew1) | exact HB.out))) : w.heap.size ≤ gb136)); clear HB; have HB := n0_; have BK136 := n1_; have GW136 := n2_; have GE136 := n3_; clear n0_ n1_ n2_ n3_; clear hb hbox hg; have hcz8_0 : w7.cell? ⟨gb136, 0, none⟩ = some (.int .i64 0) := (blk_cell BK136.out 0).trans rfl; have hcz8_1 : w7.cell? ⟨gb136, 1, none⟩ = some (.int .i64 0) := (blk_cell BK136.out 1).trans rfl; have hcz8_2 : w7.cell? ⟨gb136, 2, none⟩ = some (.string (⟨#[]⟩ : ByteArray)) := (blk_cell BK136.out 2).trans rfl; have hfz8_0 := blk_frozen BK136.out 0; have hfz8_1 := blk_frozen BK136.out 1; have hfz8_2 := blk_frozen BK136.out 2) | ((with_reducible refine gate_callee (f := 39) rfl ?_); refine goesL_ (some 17) rfl rfl Try.func39 (by kernel_rfl) rfl #[.agg #[.int .i64 ((rd_T33 l0 x12_1).f0), .int .i64 ((rd_T33 l0 x12_1).f1), .string ((rd_T33 l0 x12_1).f2)]] rfl (by (try simp only [List.map_toArray, List.map_cons, List.map_nil]); first | done | rfl | (simp only [List.length_drop, List.length_take]; rfl)) ?_; (with_reducible refine (value_Right.calls k1 ((rd_T33 l0 x12_1).f0) ((rd_T33 l0 x12_1).f1) ((rd_T33 l0 x12_1).f2) t137 _ A5.out).mono ?_); rintro e w9 ⟨rfl, hb⟩; refine ⟨_, rfl, ?_⟩; have n0_ := Aside0.mk (blk_below (g := gb136) (o := .cells #[.int .i64 ((rd_T33 l0 x12_1).f0), .int .i64 ((rd_T33 l0 x12_1).f1), .string ((rd_T33 l0 x12_1).f2)] 33 (0, 0)) (by (with_reducible repeat (first | refine blk_drewN ?_ _ | refine blk_drew ?_ | refine blk_alloc ?_ _)); refine blk_put (cs := #[.int .i64 ((rd_T33 l0 x12_1).f0), .int .i64 ((rd_T33 l0 x12_1).f1), .string (⟨#[]⟩ : ByteArray)]) ?_ 2 _ rfl; (with_reducible repeat (first | refine blk_drewN ?_ _ | refine blk_drew ?_ | refine blk_alloc ?_ _)); refine blk_put (cs := #[.int .i64 ((rd_T33 l0 x12_1).f0), .int .i64 0, .string (⟨#[]⟩ : ByteArray)]) ?_ 1 _ rfl; (with_reducible repeat (first | refine blk_drewN ?_ _ | refine blk_drew ?_ | refine blk_alloc ?_ _)); refine blk_put (cs := #[.int .i64 0, .int .i64 0, .string (⟨#[]⟩ : ByteArray)]) ?_ 0 _ rfl; (with_reducible repeat (first | refine blk_drewN ?_ _ | refine blk_drew ?_ | refine blk_alloc ?_ _)); exact BK136.out) hb); have n1_ := Aside0.mk (below_step (by repeat (first | (with_reducible first | exact HB.out | apply below_alloc | apply pw_below_drewN | apply below_drew1 | refine below_set ?_ GE136.out) | exact HB.out)) hb); clear BK136; clear HB; have BK136 := n0_; have HB := n1_; clear n0_ n1_; (try clear hb); (try clear hb2); (try clear hk); (try clear hi)))
              go_roundg k1
              case measure => have := HK1.out; omega
              case rel => exact ⟨(wrap64 (x12_1 + 1)), (by first | rfl | (simp; done) | (simp [*]; done)), H', ⟨by have := HK1.out; omega⟩, ⟨by repeat (first | (with_reducible first | exact HB.out | apply below_alloc | apply pw_below_drewN | apply below_drew1 | refine below_set ?_ GE136.out) | exact HB.out)⟩⟩
            · rw [if_neg c6] at H
              have c6b0 : (t137 == 0) = false := beq_eq_false_iff_ne.mpr c6
              have c6b1 : (t137 != 0) = true := bne_iff_ne.mpr c6
              simp only [Option.some.injEq, Prod.mk.injEq] at H
              obtain ⟨rfl, rfl⟩ := H
              have p135 : 0 ≤ (x12_1 : Int) := of_decide_eq_true (by first | (with_reducible assumption) | assumption)
              have q135 : x12_1 < (l0.length : Int) := of_decide_eq_true (by first | (with_reducible assumption) | assumption)
              obtain ⟨ad135, e135, hx135_0, hx135_1, hx135_2⟩ := at_T33 HR0.out x12_1 p135 q135
              cases e135
              replace hx135_0 := (HB.out.cell (World.block_lt_of_cell? w _ hx135_0)).trans hx135_0
              replace hx135_1 := (HB.out.cell (World.block_lt_of_cell? w _ hx135_1)).trans hx135_1
              replace hx135_2 := (HB.out.cell (World.block_lt_of_cell? w _ hx135_2)).trans hx135_2
              replace p135 := eq_true p135
              replace q135 := eq_true q135
              go_wp2_with (first | ((with_reducible refine gate_dst (N := 6) rfl ?_); refine box_event ?hg (N := 6) ?hd (cs := #[.int .i64 0, .int .i64 0, .string (⟨#[]⟩ : ByteArray)]) (t := 33) ?hr ?_; (case hd => rfl); (case hg => rfl); (case hr => first | (go_simp; done) | (go_simp; rfl)); intro gb136 hg w10 hbox hb; have n0_ := Aside0.mk (below_step (by repeat (first | (with_reducible first | exact HB.out | apply below_alloc | apply pw_below_drewN | apply below_drew1) | exact HB.out)) hb); have n1_ := Aside0.mk (hbox); have n2_ := Aside0.mk ((by rw [hg]; exact (below_size (by repeat (first | (with_reducible first | exact HB.out | apply below_alloc | apply pw_below_drewN | apply below_drew1) | exact HB.out))) : w.heap.size ≤ gb136)); have n3_ := Aside0.mk ((by rw [hg]; exact (below_size (by repeat (first | (with_reducible first | exact HB.out | apply below_alloc | apply pw_below_drewN | apply below_drew1) | exact HB.out))) : w.heap.size ≤ gb136)); clear HB; have HB := n0_; have BK136 := n1_; have GW136 := n2_; have GE136 := n3_; clear n0_ n1_ n2_ n3_; clear hb hbox hg; have hcz11_0 : w10.cell? ⟨gb136, 0, none⟩ = some (.int .i64 0) := (blk_cell BK136.out 0).trans rfl; have hcz11_1 : w10.cell? ⟨gb136, 1, none⟩ = some (.int .i64 0) := (blk_cell BK136.out 1).trans rfl; have hcz11_2 : w10.cell? ⟨gb136, 2, none⟩ = some (.string (⟨#[]⟩ : ByteArray)) := (blk_cell BK136.out 2).trans rfl; have hfz11_0 := blk_frozen BK136.out 0; have hfz11_1 := blk_frozen BK136.out 1; have hfz11_2 := blk_frozen BK136.out 2) | ((with_reducible refine gate_callee (f := 39) rfl ?_); refine goesL_ (some 17) rfl rfl Try.func39 (by kernel_rfl) rfl #[.agg #[.int .i64 ((rd_T33 l0 x12_1).f0), .int .i64 ((rd_T33 l0 x12_1).f1), .string ((rd_T33 l0 x12_1).f2)]] rfl (by (try simp only [List.map_toArray, List.map_cons, List.map_nil]); first | done | rfl | (simp only [List.length_drop, List.length_take]; rfl)) ?_; (with_reducible refine (value_Right.calls k1 ((rd_T33 l0 x12_1).f0) ((rd_T33 l0 x12_1).f1) ((rd_T33 l0 x12_1).f2) t137 _ A5.out).mono ?_); rintro e w12 ⟨rfl, hb⟩; refine ⟨_, rfl, ?_⟩; have n0_ := Aside0.mk (blk_below (g := gb136) (o := .cells #[.int .i64 ((rd_T33 l0 x12_1).f0), .int .i64 ((rd_T33 l0 x12_1).f1), .string ((rd_T33 l0 x12_1).f2)] 33 (0, 0)) (by (with_reducible repeat (first | refine blk_drewN ?_ _ | refine blk_drew ?_ | refine blk_alloc ?_ _)); refine blk_put (cs := #[.int .i64 ((rd_T33 l0 x12_1).f0), .int .i64 ((rd_T33 l0 x12_1).f1), .string (⟨#[]⟩ : ByteArray)]) ?_ 2 _ rfl; (with_reducible repeat (first | refine blk_drewN ?_ _ | refine blk_drew ?_ | refine blk_alloc ?_ _)); refine blk_put (cs := #[.int .i64 ((rd_T33 l0 x12_1).f0), .int .i64 0, .string (⟨#[]⟩ : ByteArray)]) ?_ 1 _ rfl; (with_reducible repeat (first | refine blk_drewN ?_ _ | refine blk_drew ?_ | refine blk_alloc ?_ _)); refine blk_put (cs := #[.int .i64 0, .int .i64 0, .string (⟨#[]⟩ : ByteArray)]) ?_ 0 _ rfl; (with_reducible repeat (first | refine blk_drewN ?_ _ | refine blk_drew ?_ | refine blk_alloc ?_ _)); exact BK136.out) hb); have n1_ := Aside0.mk (below_step (by repeat (first | (with_reducible first | exact HB.out | apply below_alloc | apply pw_below_drewN | apply below_drew1 | refine below_set ?_ GE136.out) | exact HB.out)) hb); clear BK136; clear HB; have BK136 := n0_; have HB := n1_; clear n0_ n1_; (try clear hb); (try clear hb2); (try clear hk); (try clear hi)))
              go_ret2
              exact ⟨by first | rfl | (simp [errW_none, errW_some] <;> rfl) | (simp [*, errW_none, errW_some] <;> rfl), by repeat (first | (with_reducible first | exact HB.out | apply below_alloc | apply pw_below_drewN | apply below_drew1 | refine below_set ?_ GE136.out) | exact HB.out)⟩
          · rw [if_neg c4] at H
            exact absurd H (by simp)
        · rw [if_neg c3] at H
          exact absurd H (by simp)
      · rw [if_neg c2] at H
        have c2b0 : decide (x12_1 < (l0.length : Int)) = false := decide_eq_false c2
        clear c2
        by_cases c13 : (l0.length : Int) > 40
        · rw [if_pos c13] at H
          have c13b0 : decide (40 < (l0.length : Int)) = true := decide_eq_true c13
          have c13b1 : decide (40 < l0.length) = true := decide_eq_true (by omega)
          clear c13
          simp only [Option.some.injEq, Prod.mk.injEq] at H
          obtain ⟨rfl, rfl⟩ := H
          go_wp2
          go_ret2
          exact ⟨by first | rfl | (simp [errW_none, errW_some] <;> rfl) | (simp [*, errW_none, errW_some] <;> rfl), by repeat (first | (with_reducible first | exact HB.out | apply below_alloc | apply pw_below_drewN | apply below_drew1) | exact HB.out)⟩
        · rw [if_neg c13] at H
          have c13b0 : decide (40 < (l0.length : Int)) = false := decide_eq_false c13
          have c13b1 : decide (40 < l0.length) = false := decide_eq_false (by omega)
          clear c13
          have H' := Aside0.mk H
          clear H
          go_wp2
          go_loopg [4, 27] k1 (fun kq v4 v27 w' => ∃ (x4_2 : List Int) (x27_2 : Int), v27 = .int .i64 x27_2 ∧ Aside0 (code_Encode.l1 kq x4_2 l0 (l0.length : Int) x27_2 = some (r1, r2)) ∧ Aside0 (kq ≤ k1) ∧ Aside0 (Kd.R (Kd.int .u8) 5 w' w.heap.size (fun _ => True) v4 x4_2) ∧ Aside0 (Below w.heap.size w w'))
          case atStart => exact ⟨(([] : List Int)), (0), (by first | rfl | (simp; done) | (simp [*]; done)), H', ⟨Nat.le_refl _⟩, ⟨by first | exact Kd.R_nil _ _ _ _ _ | exact Kd.N_nil _ _ _ _ _ | exact Kd.V_nil _ _ _ _ _ | exact Kd.Q_nil _ _ _ _ _ | exact Kd.S_nil _ _ _ _ _⟩, ⟨by repeat (first | (with_reducible first | exact HB.out | apply below_alloc | apply pw_below_drewN | apply below_drew1) | exact HB.out)⟩⟩
          case round =>
            clear H'
            try clear c1
            try clear p1
            try clear q1
            try clear hx1
            try clear c2
            try clear c2b0
            try clear p2
            try clear c3
            try clear c3b0
            try clear c4
            try clear c4b0
            try clear c6
            try clear c6b0
            try clear c6b1
            try clear p6
            try clear c13
            try clear c13b0
            try clear c13b1
            try clear p13
            try clear q13
            try clear hx13
            try clear hcz11_0
            try clear hcz11_1
            try clear hcz11_2
            try clear hcz8_0
            try clear hcz8_1
            try clear hcz8_2
            try clear hfz11_0
            try clear hfz11_1
            try clear hfz11_2
            try clear hfz8_0
            try clear hfz8_1
            try clear hfz8_2
            try clear hx135_0
            try clear hx135_1
            try clear hx135_2
            try clear p135
            try clear q135
            obtain ⟨x4_2, x27_2, rfl, HA, HK2, HO_4, HB⟩ := hrel
            cases gk with
            | zero => exact absurd HA.out (by simp [code_Encode.l1])
            | succ k2 =>
              have H := HA.out
              clear HA
              simp only [code_Encode.l1] at H
              by_cases c14 : x27_2 < (l0.length : Int)
              · rw [if_pos c14] at H
                have c14b0 : decide (x27_2 < (l0.length : Int)) = true := decide_eq_true c14
                clear c14
                by_cases c15 : 0 ≤ x27_2
                · rw [if_pos c15] at H
                  have c15b0 : decide (0 ≤ x27_2) = true := decide_eq_true c15
                  clear c15
                  by_cases c16 : x27_2 < (l0.length : Int)
                  · rw [if_pos c16] at H
                    have c16b0 : decide (x27_2 < (l0.length : Int)) = true := decide_eq_true c16
                    clear c16
                    replace H := Option.bind_eq_some_iff.mp H
                    obtain ⟨t140, A170, H⟩ := H
                    replace H : (code_Encode.l1 k2 t140 l0 (l0.length : Int) (wrap64 (x27_2 + 1))) = some (r1, r2) := H
                    have A17 := Aside0.mk A170
                    clear A170
                    have H' := Aside0.mk H
                    clear H
                    have p138 : 0 ≤ (x27_2 : Int) := of_decide_eq_true (by first | (with_reducible assumption) | assumption)
                    have q138 : x27_2 < (l0.length : Int) := of_decide_eq_true (by first | (with_reducible assumption) | assumption)
                    obtain ⟨ad138, e138, hx138_0, hx138_1, hx138_2⟩ := at_T33 HR0.out x27_2 p138 q138
                    cases e138
                    replace hx138_0 := (HB.out.cell (World.block_lt_of_cell? w _ hx138_0)).trans hx138_0
                    replace hx138_1 := (HB.out.cell (World.block_lt_of_cell? w _ hx138_1)).trans hx138_1
                    replace hx138_2 := (HB.out.cell (World.block_lt_of_cell? w _ hx138_2)).trans hx138_2
                    replace p138 := eq_true p138
                    replace q138 := eq_true q138
                    go_wp2_with (first | ((with_reducible refine gate_dst (N := 9) rfl ?_); refine box_event ?hg (N := 9) ?hd (cs := #[.int .i64 0, .int .i64 0, .string (⟨#[]⟩ : ByteArray)]) (t := 33) ?hr ?_; (case hd => rfl); (case hg => rfl); (case hr => first | (go_simp; done) | (go_simp; rfl)); intro gb139 hg w18 hbox hb; have n0_ := Aside0.mk (Kd.R_below (by (with_reducible repeat (first | apply Kd.R_alloc | apply Kd.R_drewN | apply Kd.R_drew)); exact HO_4.out) hb); have n1_ := Aside0.mk (below_step (by repeat (first | (with_reducible first | exact HB.out | apply below_alloc | apply pw_below_drewN | apply below_drew1) | exact HB.out)) hb); have n2_ := Aside0.mk (hbox); have n3_ := Aside0.mk ((by rw [hg]; exact (below_size (by repeat (first | (with_reducible first | exact HB.out | apply below_alloc | apply pw_below_drewN | apply below_drew1) | exact HB.out))) : w.heap.size ≤ gb139)); have n4_ := Aside0.mk ((by rw [hg]; exact (below_size (by repeat (first | (with_reducible first | exact HB.out | apply below_alloc | apply pw_below_drewN | apply below_drew1) | exact HB.out))) : w.heap.size ≤ gb139)); clear HO_4; clear HB; have HO_4 := n0_; have HB := n1_; have BK139 := n2_; have GW139 := n3_; have GE139 := n4_; clear n0_ n1_ n2_ n3_ n4_; clear hb hbox hg; have hcz19_0 : w18.cell? ⟨gb139, 0, none⟩ = some (.int .i64 0) := (blk_cell BK139.out 0).trans rfl; have hcz19_1 : w18.cell? ⟨gb139, 1, none⟩ = some (.int .i64 0) := (blk_cell BK139.out 1).trans rfl; have hcz19_2 : w18.cell? ⟨gb139, 2, none⟩ = some (.string (⟨#[]⟩ : ByteArray)) := (blk_cell BK139.out 2).trans rfl; have hfz19_0 := blk_frozen BK139.out 0; have hfz19_1 := blk_frozen BK139.out 1; have hfz19_2 := blk_frozen BK139.out 2) | ((with_reducible refine gate_store (t := 33) (p := 9) rfl ?_); refine store_event (t := 33) (p := 9) (v := ?vo_w20) (w1 := (((w18.setCell ⟨gb139, 0, none⟩ (.int .i64 ((rd_T33 l0 x27_2).f0))).setCell ⟨gb139, 1, none⟩ (.int .i64 ((rd_T33 l0 x27_2).f1))).setCell ⟨gb139, 2, none⟩ (.string ((rd_T33 l0 x27_2).f2)))) ?hg ?ho ?hn ?hr ?_; (case ho => rfl); (case hg => rfl); (case hn => rfl); (case hr => first | (go_simp; done) | (go_simp; rfl)); intro w20 hw; have n0_ : Aside0 (Kd.R (Kd.int .u8) 5 w20 w.heap.size (fun _ => True) u4 x4_2) := ⟨(by rw [hw]; exact (by (with_reducible repeat (first | apply Kd.R_alloc | apply Kd.R_drewN | apply Kd.R_drew)); exact Kd.R_mono (Kd.R_far (p := ⟨gb139, 2, none⟩) (Kd.R_far (p := ⟨gb139, 1, none⟩) (Kd.R_far (p := ⟨gb139, 0, none⟩) (Kd.R_types HO_4.out BK139.out (by decide)) (fun _ hk => hk.2) (.int .i64 ((rd_T33 l0 x27_2).f0))) (fun _ hk => hk.2) (.int .i64 ((rd_T33 l0 x27_2).f1))) (fun _ hk => hk.2) (.string ((rd_T33 l0 x27_2).f2))) (fun _ hk => trivial)))⟩; have n1_ : Aside0 (w20.heap[gb139]? = some (.cells #[.int .i64 ((rd_T33 l0 x27_2).f0), .int .i64 ((rd_T33 l0 x27_2).f1), .string ((rd_T33 l0 x27_2).f2)] 33 (0, 0))) := ⟨(by rw [hw]; exact (by (with_reducible repeat (first | refine blk_drewN ?_ _ | refine blk_drew ?_ | refine blk_alloc ?_ _)); refine blk_put (cs := #[.int .i64 ((rd_T33 l0 x27_2).f0), .int .i64 ((rd_T33 l0 x27_2).f1), .string (⟨#[]⟩ : ByteArray)]) ?_ 2 _ rfl; (with_reducible repeat (first | refine blk_drewN ?_ _ | refine blk_drew ?_ | refine blk_alloc ?_ _)); refine blk_put (cs := #[.int .i64 ((rd_T33 l0 x27_2).f0), .int .i64 0, .string (⟨#[]⟩ : ByteArray)]) ?_ 1 _ rfl; (with_reducible repeat (first | refine blk_drewN ?_ _ | refine blk_drew ?_ | refine blk_alloc ?_ _)); refine blk_put (cs := #[.int .i64 0, .int .i64 0, .string (⟨#[]⟩ : ByteArray)]) ?_ 0 _ rfl; (with_reducible repeat (first | refine blk_drewN ?_ _ | refine blk_drew ?_ | refine blk_alloc ?_ _)); exact BK139.out))⟩; have n2_ : Aside0 (Below w.heap.size w w20) := ⟨(by rw [hw]; exact (by repeat (first | (with_reducible first | exact HB.out | apply below_alloc | apply pw_below_drewN | apply below_drew1 | refine below_set ?_ GE139.out) | exact HB.out)))⟩; clear hw; clear HO_4; clear BK139; clear HB; have HO_4 := n0_; have BK139 := n1_; have HB := n2_; clear n0_ n1_ n2_; have hcz21_0 : w20.cell? ⟨gb139, 0, none⟩ = some (.int .i64 ((rd_T33 l0 x27_2).f0)) := (blk_cell BK139.out 0).trans rfl; have hcz21_1 : w20.cell? ⟨gb139, 1, none⟩ = some (.int .i64 ((rd_T33 l0 x27_2).f1)) := (blk_cell BK139.out 1).trans rfl; have hcz21_2 : w20.cell? ⟨gb139, 2, none⟩ = some (.string ((rd_T33 l0 x27_2).f2)) := (blk_cell BK139.out 2).trans rfl; have hfz21_0 := blk_frozen BK139.out 0; have hfz21_1 := blk_frozen BK139.out 1; have hfz21_2 := blk_frozen BK139.out 2; obtain ⟨Ao22, co22, eo22⟩ := Kd.R_slice HO_4.out; subst eo22) | ((with_reducible refine gate_callee (f := 72) rfl ?_); refine goesL_ (some 33) rfl rfl Try.func72 (by kernel_rfl) rfl #[.slice Ao22 x4_2.length co22, .agg #[.int .i64 ((rd_T33 l0 x27_2).f0), .int .i64 ((rd_T33 l0 x27_2).f1), .string ((rd_T33 l0 x27_2).f2)]] rfl (by (try simp only [List.map_toArray, List.map_cons, List.map_nil]); first | done | rfl | (simp only [List.length_drop, List.length_take]; rfl)) ?_; (with_reducible refine (code_put.calls k2 (fun k_ => some k_ = (.slice Ao22 x4_2.length co22 : Value).ownBlock) (.slice Ao22 x4_2.length co22) x4_2 ((rd_T33 l0 x27_2).f0) ((rd_T33 l0 x27_2).f1) ((rd_T33 l0 x27_2).f2) t140 w _ ?side1 ?side2 A17.out).mono ?_); (case side1 => repeat (first | (with_reducible first | exact HB.out | apply below_alloc | apply pw_below_drewN | apply below_drew1 | refine below_set ?_ GE139.out) | exact HB.out)); (case side2 => exact Kd.R_tight rfl HO_4.out); rintro e w23 ⟨v141, rfl, ho0, hb, hkp⟩; refine ⟨_, rfl, ?_⟩; have n0_ := Aside0.mk (blk_kept (by (with_reducible repeat (first | refine blk_drewN ?_ _ | refine blk_drew ?_ | refine blk_alloc ?_ _)); exact BK139.out) hkp (fun hs_ => (fun e_ => (Kd.R_ne HO_4.out BK139.out (by decide)) e_) hs_)); have n1_ := Aside0.mk (Kd.R_mono (ok' := fun k_ => True) ho0 (fun k_ hk_ => trivial)); have n2_ := Aside0.mk (hb); clear BK139; clear HB; clear HO_4; have BK139 := n0_; have HO142 := n1_; have HB := n2_; clear n0_ n1_ n2_; (try clear hb); (try clear hkp); (try clear ho0)))
                    go_roundg k2
                    case measure => have := HK1.out; have := HK2.out; omega
                    case rel => exact ⟨(t140), (wrap64 (x27_2 + 1)), (by first | rfl | (simp; done) | (simp [*]; done)), H', ⟨by have := HK1.out; have := HK2.out; omega⟩, ⟨by (with_reducible repeat (first | apply Kd.R_alloc | apply Kd.R_drewN | apply Kd.R_drew)); exact HO142.out⟩, ⟨by repeat (first | (with_reducible first | exact HB.out | apply below_alloc | apply pw_below_drewN | apply below_drew1 | refine below_set ?_ GE139.out) | exact HB.out)⟩⟩
                  · rw [if_neg c16] at H
                    exact absurd H (by simp)
                · rw [if_neg c15] at H
                  exact absurd H (by simp)
              · rw [if_neg c14] at H
                have c14b0 : decide (x27_2 < (l0.length : Int)) = false := decide_eq_false c14
                clear c14
                simp only [Option.some.injEq, Prod.mk.injEq] at H
                obtain ⟨rfl, rfl⟩ := H
                have hcv24 := own_string (P := Try.prog) Try.underlying77 Try.underlying5 Try.underlying9 (Kd.own_of_R HO_4.out)
                go_wp2
                go_ret2
                exact ⟨by first | rfl | (simp [errW_none, errW_some] <;> rfl) | (simp [*, errW_none, errW_some] <;> rfl), by repeat (first | (with_reducible first | exact HB.out | apply below_alloc | apply pw_below_drewN | apply below_drew1) | exact HB.out)⟩
end Go.Proofs.Ythghflgmeepnlaa.Pa
end
section
namespace Go.Proofs.Ythghflgmeepnlaa.Pa
open Go.RowKit Go.Proofs.YthghflgmeepnlaaW.PrintWords Go.Proofs.YthghflgmeepnlaaW.PrintLast Go.Proofs.YthghflgmeepnlaaW.PrintMore
attribute [local go_sem] max2_int max_two
set_option linter.unusedVariables false
set_option linter.unusedSimpArgs false
def cordonref01_Right.j0 : Nat → Bool → Int → Int → ByteArray → Option (Int)
  | 0, _, _, _, _ => none
  | k + 1, x3, x157000, x157001, x157002 => if x3 = true then (if x157000 = 3 then (if (x157002.size : Int) > 1000 then (some 8) else (some 0)) else (some 0)) else (some 2)
def cordonref01_Right.f (k : Nat) (a0_0 : Int) (a0_1 : Int) (a0_2 : ByteArray) : Option (Int) := if a0_0 = 0 then (if a0_1 = 0 then (if a0_2.toList = ([] : List UInt8) then (cordonref01_Right.j0 k true a0_0 a0_1 a0_2) else (if a0_0 = 1 then (if a0_0 = 2 then (if a0_0 = 3 then (cordonref01_Right.j0 k (a0_1 == 0) a0_0 a0_1 a0_2) else (cordonref01_Right.j0 k false a0_0 a0_1 a0_2)) else (if a0_0 = 3 then (cordonref01_Right.j0 k (a0_1 == 0) a0_0 a0_1 a0_2) else (cordonref01_Right.j0 k false a0_0 a0_1 a0_2))) else (if a0_0 = 2 then (if a0_0 = 3 then (cordonref01_Right.j0 k (a0_1 == 0) a0_0 a0_1 a0_2) else (cordonref01_Right.j0 k false a0_0 a0_1 a0_2)) else (if a0_0 = 3 then (cordonref01_Right.j0 k (a0_1 == 0) a0_0 a0_1 a0_2) else (cordonref01_Right.j0 k false a0_0 a0_1 a0_2))))) else (if a0_0 = 1 then (if a0_1 = 1 then (if a0_2.toList = ([] : List UInt8) then (cordonref01_Right.j0 k true a0_0 a0_1 a0_2) else (if a0_0 = 2 then (if a0_0 = 3 then (cordonref01_Right.j0 k (a0_1 == 0) a0_0 a0_1 a0_2) else (cordonref01_Right.j0 k false a0_0 a0_1 a0_2)) else (if a0_0 = 3 then (cordonref01_Right.j0 k (a0_1 == 0) a0_0 a0_1 a0_2) else (cordonref01_Right.j0 k false a0_0 a0_1 a0_2)))) else (if a0_0 = 2 then (if a0_2.toList = ([] : List UInt8) then (cordonref01_Right.j0 k true a0_0 a0_1 a0_2) else (if a0_0 = 3 then (cordonref01_Right.j0 k (a0_1 == 0) a0_0 a0_1 a0_2) else (cordonref01_Right.j0 k false a0_0 a0_1 a0_2))) else (if a0_0 = 3 then (cordonref01_Right.j0 k (a0_1 == 0) a0_0 a0_1 a0_2) else (cordonref01_Right.j0 k false a0_0 a0_1 a0_2)))) else (if a0_0 = 2 then (if a0_2.toList = ([] : List UInt8) then (cordonref01_Right.j0 k true a0_0 a0_1 a0_2) else (if a0_0 = 3 then (cordonref01_Right.j0 k (a0_1 == 0) a0_0 a0_1 a0_2) else (cordonref01_Right.j0 k false a0_0 a0_1 a0_2))) else (if a0_0 = 3 then (cordonref01_Right.j0 k (a0_1 == 0) a0_0 a0_1 a0_2) else (cordonref01_Right.j0 k false a0_0 a0_1 a0_2))))) else (if a0_0 = 1 then (if a0_1 = 0 then (if a0_2.toList = ([] : List UInt8) then (cordonref01_Right.j0 k true a0_0 a0_1 a0_2) else (if a0_0 = 2 then (if a0_0 = 3 then (cordonref01_Right.j0 k (a0_1 == 0) a0_0 a0_1 a0_2) else (cordonref01_Right.j0 k false a0_0 a0_1 a0_2)) else (if a0_0 = 3 then (cordonref01_Right.j0 k (a0_1 == 0) a0_0 a0_1 a0_2) else (cordonref01_Right.j0 k false a0_0 a0_1 a0_2)))) else (if a0_1 = 1 then (if a0_2.toList = ([] : List UInt8) then (cordonref01_Right.j0 k true a0_0 a0_1 a0_2) else (if a0_0 = 2 then (if a0_0 = 3 then (cordonref01_Right.j0 k (a0_1 == 0) a0_0 a0_1 a0_2) else (cordonref01_Right.j0 k false a0_0 a0_1 a0_2)) else (if a0_0 = 3 then (cordonref01_Right.j0 k (a0_1 == 0) a0_0 a0_1 a0_2) else (cordonref01_Right.j0 k false a0_0 a0_1 a0_2)))) else (if a0_0 = 2 then (if a0_2.toList = ([] : List UInt8) then (cordonref01_Right.j0 k true a0_0 a0_1 a0_2) else (if a0_0 = 3 then (cordonref01_Right.j0 k (a0_1 == 0) a0_0 a0_1 a0_2) else (cordonref01_Right.j0 k false a0_0 a0_1 a0_2))) else (if a0_0 = 3 then (cordonref01_Right.j0 k (a0_1 == 0) a0_0 a0_1 a0_2) else (cordonref01_Right.j0 k false a0_0 a0_1 a0_2))))) else (if a0_0 = 2 then (if a0_2.toList = ([] : List UInt8) then (cordonref01_Right.j0 k true a0_0 a0_1 a0_2) else (if a0_0 = 3 then (cordonref01_Right.j0 k (a0_1 == 0) a0_0 a0_1 a0_2) else (cordonref01_Right.j0 k false a0_0 a0_1 a0_2))) else (if a0_0 = 3 then (cordonref01_Right.j0 k (a0_1 == 0) a0_0 a0_1 a0_2) else (cordonref01_Right.j0 k false a0_0 a0_1 a0_2))))
theorem cordonref01_Right.mono_l : ∀ k, (∀ y0 y1 y2 y3, LeO (cordonref01_Right.j0 k y0 y1 y2 y3) (cordonref01_Right.j0 (k + 1) y0 y1 y2 y3))
  | 0 => fun _ _ _ _ r h => by simp [cordonref01_Right.j0] at h
  | k + 1 => by
    have ih0 := cordonref01_Right.mono_l k
    · intro y0 y1 y2 y3
      unfold cordonref01_Right.j0
      repeat' first
      | (with_reducible exact ih0 _ _ _ _)
      | (with_reducible exact LeO.refl _)
      | (with_reducible exact LeO.none _)
      | (with_reducible refine LeO.ite ?_ ?_)
      | (with_reducible refine LeO.bind ?_ (fun _ => ?_))
      | exact ih0 _ _ _ _
      | exact LeO.none _
      | refine LeO.ite ?_ ?_
      | refine LeO.bind ?_ (fun _ => ?_)
theorem cordonref01_Right.mono : ∀ a0 a1 a2 k, LeO (cordonref01_Right.f k a0 a1 a2) (cordonref01_Right.f (k + 1) a0 a1 a2) := by
  intro a0 a1 a2 k
  have ih0 := cordonref01_Right.mono_l k
  unfold cordonref01_Right.f
  repeat' first
      | (with_reducible exact ih0 _ _ _ _)
      | (with_reducible exact LeO.refl _)
      | (with_reducible exact LeO.none _)
      | (with_reducible refine LeO.ite ?_ ?_)
      | (with_reducible refine LeO.bind ?_ (fun _ => ?_))
      | exact ih0 _ _ _ _
      | exact LeO.none _
      | refine LeO.ite ?_ ?_
      | refine LeO.bind ?_ (fun _ => ?_)
set_option maxHeartbeats 8000000 in
set_option maxRecDepth 100000 in
theorem cordonref01_Right.calls (k : Nat) (a0_0 : Int) (a0_1 : Int) (a0_2 : ByteArray) (r : Int) (w : World) (h : cordonref01_Right.f k a0_0 a0_1 a0_2 = some r) :
    Calls Try.prog 40 #[.agg #[.int .i64 a0_0, .int .i64 a0_1, .string a0_2]] w fun e w' => e = .returned (.int .i64 r) ∧ Below w.heap.size w w' := by
  have hu33 := Try.underlying33
  have HB := Aside0.mk (Below.refl w.heap.size w)
  have H : (if a0_0 = 0 then (if a0_1 = 0 then (if a0_2.toList = ([] : List UInt8) then (cordonref01_Right.j0 k true a0_0 a0_1 a0_2) else (if a0_0 = 1 then (if a0_0 = 2 then (if a0_0 = 3 then (cordonref01_Right.j0 k (a0_1 == 0) a0_0 a0_1 a0_2) else (cordonref01_Right.j0 k false a0_0 a0_1 a0_2)) else (if a0_0 = 3 then (cordonref01_Right.j0 k (a0_1 == 0) a0_0 a0_1 a0_2) else (cordonref01_Right.j0 k false a0_0 a0_1 a0_2))) else (if a0_0 = 2 then (if a0_0 = 3 then (cordonref01_Right.j0 k (a0_1 == 0) a0_0 a0_1 a0_2) else (cordonref01_Right.j0 k false a0_0 a0_1 a0_2)) else (if a0_0 = 3 then (cordonref01_Right.j0 k (a0_1 == 0) a0_0 a0_1 a0_2) else (cordonref01_Right.j0 k false a0_0 a0_1 a0_2))))) else (if a0_0 = 1 then (if a0_1 = 1 then (if a0_2.toList = ([] : List UInt8) then (cordonref01_Right.j0 k true a0_0 a0_1 a0_2) else (if a0_0 = 2 then (if a0_0 = 3 then (cordonref01_Right.j0 k (a0_1 == 0) a0_0 a0_1 a0_2) else (cordonref01_Right.j0 k false a0_0 a0_1 a0_2)) else (if a0_0 = 3 then (cordonref01_Right.j0 k (a0_1 == 0) a0_0 a0_1 a0_2) else (cordonref01_Right.j0 k false a0_0 a0_1 a0_2)))) else (if a0_0 = 2 then (if a0_2.toList = ([] : List UInt8) then (cordonref01_Right.j0 k true a0_0 a0_1 a0_2) else (if a0_0 = 3 then (cordonref01_Right.j0 k (a0_1 == 0) a0_0 a0_1 a0_2) else (cordonref01_Right.j0 k false a0_0 a0_1 a0_2))) else (if a0_0 = 3 then (cordonref01_Right.j0 k (a0_1 == 0) a0_0 a0_1 a0_2) else (cordonref01_Right.j0 k false a0_0 a0_1 a0_2)))) else (if a0_0 = 2 then (if a0_2.toList = ([] : List UInt8) then (cordonref01_Right.j0 k true a0_0 a0_1 a0_2) else (if a0_0 = 3 then (cordonref01_Right.j0 k (a0_1 == 0) a0_0 a0_1 a0_2) else (cordonref01_Right.j0 k false a0_0 a0_1 a0_2))) else (if a0_0 = 3 then (cordonref01_Right.j0 k (a0_1 == 0) a0_0 a0_1 a0_2) else (cordonref01_Right.j0 k false a0_0 a0_1 a0_2))))) else (if a0_0 = 1 then (if a0_1 = 0 then (if a0_2.toList = ([] : List UInt8) then (cordonref01_Right.j0 k true a0_0 a0_1 a0_2) else (if a0_0 = 2 then (if a0_0 = 3 then (cordonref01_Right.j0 k (a0_1 == 0) a0_0 a0_1 a0_2) else (cordonref01_Right.j0 k false a0_0 a0_1 a0_2)) else (if a0_0 = 3 then (cordonref01_Right.j0 k (a0_1 == 0) a0_0 a0_1 a0_2) else (cordonref01_Right.j0 k false a0_0 a0_1 a0_2)))) else (if a0_1 = 1 then (if a0_2.toList = ([] : List UInt8) then (cordonref01_Right.j0 k true a0_0 a0_1 a0_2) else (if a0_0 = 2 then (if a0_0 = 3 then (cordonref01_Right.j0 k (a0_1 == 0) a0_0 a0_1 a0_2) else (cordonref01_Right.j0 k false a0_0 a0_1 a0_2)) else (if a0_0 = 3 then (cordonref01_Right.j0 k (a0_1 == 0) a0_0 a0_1 a0_2) else (cordonref01_Right.j0 k false a0_0 a0_1 a0_2)))) else (if a0_0 = 2 then (if a0_2.toList = ([] : List UInt8) then (cordonref01_Right.j0 k true a0_0 a0_1 a0_2) else (if a0_0 = 3 then (cordonref01_Right.j0 k (a0_1 == 0) a0_0 a0_1 a0_2) else (cordonref01_Right.j0 k false a0_0 a0_1 a0_2))) else (if a0_0 = 3 then (cordonref01_Right.j0 k (a0_1 == 0) a0_0 a0_1 a0_2) else (cordonref01_Right.j0 k false a0_0 a0_1 a0_2))))) else (if a0_0 = 2 then (if a0_2.toList = ([] : List UInt8) then (cordonref01_Right.j0 k true a0_0 a0_1 a0_2) else (if a0_0 = 3 then (cordonref01_Right.j0 k (a0_1 == 0) a0_0 a0_1 a0_2) else (cordonref01_Right.j0 k false a0_0 a0_1 a0_2))) else (if a0_0 = 3 then (cordonref01_Right.j0 k (a0_1 == 0) a0_0 a0_1 a0_2) else (cordonref01_Right.j0 k false a0_0 a0_1 a0_2))))) = some r := h
  clear h
  have HC2 := Aside0.mk H
  clear H
  go_enter Try.func40, Try.ntmps40
  go_upto_region 1 with (first | ((with_reducible refine gate_dst (N := 1) rfl ?_); (try (refine gate_guard (by rfl) ?_; dsimp only)); refine box_event ?hg (N := 1) ?hd (cs := #[.int .i64 a0_0, .int .i64 a0_1, .string a0_2]) (t := 33) ?hr ?_; (case hd => rfl); (case hg => rfl); (case hr => first | (go_simp; done) | (go_simp; rfl)); intro gb156 hg w3 hbox hb; have n0_ := Aside0.mk (below_step (by repeat (first | (with_reducible first | exact HB.out | apply below_alloc | apply pw_below_drewN | apply below_drew1) | exact HB.out)) hb); have n1_ := Aside0.mk (hbox); have n2_ := Aside0.mk ((by rw [hg]; exact (below_size (by repeat (first | (with_reducible first | exact HB.out | apply below_alloc | apply pw_below_drewN | apply below_drew1) | exact HB.out))) : w.heap.size ≤ gb156)); have n3_ := Aside0.mk ((by rw [hg]; exact (below_size (by repeat (first | (with_reducible first | exact HB.out | apply below_alloc | apply pw_below_drewN | apply below_drew1) | exact HB.out))) : w.heap.size ≤ gb156)); clear HB; have HB := n0_; have BK156 := n1_; have GW156 := n2_; have GE156 := n3_; clear n0_ n1_ n2_ n3_; clear hb hbox hg))
  (try simp only [Act.put, List.setIfInBounds_toArray, List.set_cons_zero, List.set_cons_succ])
  go_cut [3] (fun v3 wc => ∃ (kq : Nat) (x3_1 : Bool), v3 = .bool x3_1 ∧ Aside0 (cordonref01_Right.j0 kq x3_1 a0_0 a0_1 a0_2 = some r) ∧ Aside0 (kq ≤ k) ∧ Aside0 (wc.heap[gb156]? = some (.cells #[.int .i64 a0_0, .int .i64 a0_1, .string a0_2] 33 (0, 0))) ∧ Aside0 (Below w.heap.size w wc))
  case first =>
    have H := HC2.out
    clear HC2
    by_cases c4 : a0_0 = 0
    · rw [if_pos c4] at H
      have c4b0 : (a0_0 == 0) = true := beq_iff_eq.mpr c4
      have c4b1 : (a0_0 != 0) = false := bne_eq_false_iff_eq.mpr c4
      clear c4
      (first | rw [c4b0] | (simp only [i64_w, i32_w]; rw [c4b0]) | skip)
      by_cases c5 : a0_1 = 0
      · rw [if_pos c5] at H
        have c5b0 : (a0_1 == 0) = true := beq_iff_eq.mpr c5
        have c5b1 : (a0_1 != 0) = false := bne_eq_false_iff_eq.mpr c5
        clear c5
        by_cases c6 : a0_2.toList = ([] : List UInt8)
        · rw [if_pos c6] at H
          have c6b0 : (a0_2.toList == ([] : List UInt8)) = true := beq_iff_eq.mpr c6
          have c6b1 : (a0_2.toList != ([] : List UInt8)) = false := bne_eq_false_iff_eq.mpr c6
          clear c6
          have H' := Aside0.mk H
          clear H
          have hcz7_0 : w3.cell? ⟨gb156, 0, none⟩ = some (.int .i64 a0_0) := (blk_cell BK156.out 0).trans rfl
          have hcz7_1 : w3.cell? ⟨gb156, 1, none⟩ = some (.int .i64 a0_1) := (blk_cell BK156.out 1).trans rfl
          have hcz7_2 : w3.cell? ⟨gb156, 2, none⟩ = some (.string a0_2) := (blk_cell BK156.out 2).trans rfl
          have hfz7_0 := blk_frozen BK156.out 0
          have hfz7_1 := blk_frozen BK156.out 1
          have hfz7_2 := blk_frozen BK156.out 2
          go_wp2
          go_meet
          case rel => exact ⟨_, (true), (by first | rfl | (simp; done) | (simp [*]; done)), H', ⟨by first | omega | exact Nat.le_refl _⟩, ⟨by (with_reducible repeat (first | refine blk_drewN ?_ _ | refine blk_drew ?_ | refine blk_alloc ?_ _)); exact BK156.out⟩, ⟨by repeat (first | (with_reducible first | exact HB.out | apply below_alloc | apply pw_below_drewN | apply below_drew1 | refine below_set ?_ GE156.out) | exact HB.out)⟩⟩
        · rw [if_neg c6] at H
          have c6b0 : (a0_2.toList == ([] : List UInt8)) = false := beq_eq_false_iff_ne.mpr c6
          have c6b1 : (a0_2.toList != ([] : List UInt8)) = true := bne_iff_ne.mpr c6
          by_cases c8 : a0_0 = 1
          · rw [if_pos c8] at H
            have c8b0 : (a0_0 == 1) = true := beq_iff_eq.mpr c8
            have c8b1 : (a0_0 != 1) = false := bne_eq_false_iff_eq.mpr c8
            clear c8
            by_cases c9 : a0_0 = 2
            · rw [if_pos c9] at H
              have c9b0 : (a0_0 == 2) = true := beq_iff_eq.mpr c9
              have c9b1 : (a0_0 != 2) = false := bne_eq_false_iff_eq.mpr c9
              clear c9
              by_cases c10 : a0_0 = 3
              · rw [if_pos c10] at H
                have c10b0 : (a0_0 == 3) = true := beq_iff_eq.mpr c10
                have c10b1 : (a0_0 != 3) = false := bne_eq_false_iff_eq.mpr c10
                clear c10
                have H' := Aside0.mk H
                clear H
                have hcz11_0 : w3.cell? ⟨gb156, 0, none⟩ = some (.int .i64 a0_0) := (blk_cell BK156.out 0).trans rfl
                have hcz11_1 : w3.cell? ⟨gb156, 1, none⟩ = some (.int .i64 a0_1) := (blk_cell BK156.out 1).trans rfl
                have hcz11_2 : w3.cell? ⟨gb156, 2, none⟩ = some (.string a0_2) := (blk_cell BK156.out 2).trans rfl
                have hfz11_0 := blk_frozen BK156.out 0
                have hfz11_1 := blk_frozen BK156.out 1
                have hfz11_2 := blk_frozen BK156.out 2
                go_wp2
                go_meet
                case rel => exact ⟨_, ((a0_1 == 0)), (by first | rfl | (simp; done) | (simp [*]; done)), H', ⟨by first | omega | exact Nat.le_refl _⟩, ⟨by (with_reducible repeat (first | refine blk_drewN ?_ _ | refine blk_drew ?_ | refine blk_alloc ?_ _)); exact BK156.out⟩, ⟨by repeat (first | (with_reducible first | exact HB.out | apply below_alloc | apply pw_below_drewN | apply below_drew1 | refine below_set ?_ GE156.out) | exact HB.out)⟩⟩
              · rw [if_neg c10] at H
                have c10b0 : (a0_0 == 3) = false := beq_eq_false_iff_ne.mpr c10
                have c10b1 : (a0_0 != 3) = true := bne_iff_ne.mpr c10
                have H' := Aside0.mk H
                clear H
                have hcz12_0 : w3.cell? ⟨gb156, 0, none⟩ = some (.int .i64 a0_0) := (blk_cell BK156.out 0).trans rfl
                have hcz12_1 : w3.cell? ⟨gb156, 1, none⟩ = some (.int .i64 a0_1) := (blk_cell BK156.out 1).trans rfl
                have hcz12_2 : w3.cell? ⟨gb156, 2, none⟩ = some (.string a0_2) := (blk_cell BK156.out 2).trans rfl
                have hfz12_0 := blk_frozen BK156.out 0
                have hfz12_1 := blk_frozen BK156.out 1
                have hfz12_2 := blk_frozen BK156.out 2
                go_wp2
                go_meet
                case rel => exact ⟨_, (false), (by first | rfl | (simp; done) | (simp [*]; done)), H', ⟨by first | omega | exact Nat.le_refl _⟩, ⟨by (with_reducible repeat (first | refine blk_drewN ?_ _ | refine blk_drew ?_ | refine blk_alloc ?_ _)); exact BK156.out⟩, ⟨by repeat (first | (with_reducible first | exact HB.out | apply below_alloc | apply pw_below_drewN | apply below_drew1 | refine below_set ?_ GE156.out) | exact HB.out)⟩⟩
            · rw [if_neg c9] at H
              have c9b0 : (a0_0 == 2) = false := beq_eq_false_iff_ne.mpr c9
              have c9b1 : (a0_0 != 2) = true := bne_iff_ne.mpr c9
              by_cases c13 : a0_0 = 3
              · rw [if_pos c13] at H
                have c13b0 : (a0_0 == 3) = true := beq_iff_eq.mpr c13
                have c13b1 : (a0_0 != 3) = false := bne_eq_false_iff_eq.mpr c13
                clear c13
                have H' := Aside0.mk H
                clear H
                have hcz14_0 : w3.cell? ⟨gb156, 0, none⟩ = some (.int .i64 a0_0) := (blk_cell BK156.out 0).trans rfl
                have hcz14_1 : w3.cell? ⟨gb156, 1, none⟩ = some (.int .i64 a0_1) := (blk_cell BK156.out 1).trans rfl
                have hcz14_2 : w3.cell? ⟨gb156, 2, none⟩ = some (.string a0_2) := (blk_cell BK156.out 2).trans rfl
                have hfz14_0 := blk_frozen BK156.out 0
                have hfz14_1 := blk_frozen BK156.out 1
                have hfz14_2 := blk_frozen BK156.out 2
                go_wp2
                go_meet
                case rel => exact ⟨_, ((a0_1 == 0)), (by first | rfl | (simp; done) | (simp [*]; done)), H', ⟨by first | omega | exact Nat.le_refl _⟩, ⟨by (with_reducible repeat (first | refine blk_drewN ?_ _ | refine blk_drew ?_ | refine blk_alloc ?_ _)); exact BK156.out⟩, ⟨by repeat (first | (with_reducible first | exact HB.out | apply below_alloc | apply pw_below_drewN | apply below_drew1 | refine below_set ?_ GE156.out) | exact HB.out)⟩⟩
              · rw [if_neg c13] at H
                have c13b0 : (a0_0 == 3) = false := beq_eq_false_iff_ne.mpr c13
                have c13b1 : (a0_0 != 3) = true := bne_iff_ne.mpr c13
                have H' := Aside0.mk H
                clear H
                have hcz15_0 : w3.cell? ⟨gb156, 0, none⟩ = some (.int .i64 a0_0) := (blk_cell BK156.out 0).trans rfl
                have hcz15_1 : w3.cell? ⟨gb156, 1, none⟩ = some (.int .i64 a0_1) := (blk_cell BK156.out 1).trans rfl
                have hcz15_2 : w3.cell? ⟨gb156, 2, none⟩ = some (.string a0_2) := (blk_cell BK156.out 2).trans rfl
                have hfz15_0 := blk_frozen BK156.out 0
                have hfz15_1 := blk_frozen BK156.out 1
                have hfz15_2 := blk_frozen BK156.out 2
                go_wp2
                go_meet
                case rel => exact ⟨_, (false), (by first | rfl | (simp; done) | (simp [*]; done)), H', ⟨by first | omega | exact Nat.le_refl _⟩, ⟨by (with_reducible repeat (first | refine blk_drewN ?_ _ | refine blk_drew ?_ | refine blk_alloc ?_ _)); exact BK156.out⟩, ⟨by repeat (first | (with_reducible first | exact HB.out | apply below_alloc | apply pw_below_drewN | apply below_drew1 | refine below_set ?_ GE156.out) | exact HB.out)⟩⟩
          · rw [if_neg c8] at H
            have c8b0 : (a0_0 == 1) = false := beq_eq_false_iff_ne.mpr c8
            have c8b1 : (a0_0 != 1) = true := bne_iff_ne.mpr c8
            by_cases c16 : a0_0 = 2
            · rw [if_pos c16] at H
              have c16b0 : (a0_0 == 2) = true := beq_iff_eq.mpr c16
              have c16b1 : (a0_0 != 2) = false := bne_eq_false_iff_eq.mpr c16
              clear c16
              by_cases c17 : a0_0 = 3
              · rw [if_pos c17] at H
                have c17b0 : (a0_0 == 3) = true := beq_iff_eq.mpr c17
                have c17b1 : (a0_0 != 3) = false := bne_eq_false_iff_eq.mpr c17
                clear c17
                have H' := Aside0.mk H
                clear H
                have hcz18_0 : w3.cell? ⟨gb156, 0, none⟩ = some (.int .i64 a0_0) := (blk_cell BK156.out 0).trans rfl
                have hcz18_1 : w3.cell? ⟨gb156, 1, none⟩ = some (.int .i64 a0_1) := (blk_cell BK156.out 1).trans rfl
                have hcz18_2 : w3.cell? ⟨gb156, 2, none⟩ = some (.string a0_2) := (blk_cell BK156.out 2).trans rfl
                have hfz18_0 := blk_frozen BK156.out 0
                have hfz18_1 := blk_frozen BK156.out 1
                have hfz18_2 := blk_frozen BK156.out 2
                go_wp2
                go_meet
                case rel => exact ⟨_, ((a0_1 == 0)), (by first | rfl | (simp; done) | (simp [*]; done)), H', ⟨by first | omega | exact Nat.le_refl _⟩, ⟨by (with_reducible repeat (first | refine blk_drewN ?_ _ | refine blk_drew ?_ | refine blk_alloc ?_ _)); exact BK156.out⟩, ⟨by repeat (first | (with_reducible first | exact HB.out | apply below_alloc | apply pw_below_drewN | apply below_drew1 | refine below_set ?_ GE156.out) | exact HB.out)⟩⟩
              · rw [if_neg c17] at H
                have c17b0 : (a0_0 == 3) = false := beq_eq_false_iff_ne.mpr c17
                have c17b1 : (a0_0 != 3) = true := bne_iff_ne.mpr c17
                have H' := Aside0.mk H
                clear H
                have hcz19_0 : w3.cell? ⟨gb156, 0, none⟩ = some (.int .i64 a0_0) := (blk_cell BK156.out 0).trans rfl
                have hcz19_1 : w3.cell? ⟨gb156, 1, none⟩ = some (.int .i64 a0_1) := (blk_cell BK156.out 1).trans rfl
                have hcz19_2 : w3.cell? ⟨gb156, 2, none⟩ = some (.string a0_2) := (blk_cell BK156.out 2).trans rfl
                have hfz19_0 := blk_frozen BK156.out 0
                have hfz19_1 := blk_frozen BK156.out 1
                have hfz19_2 := blk_frozen BK156.out 2
                go_wp2
                go_meet
                case rel => exact ⟨_, (false), (by first | rfl | (simp; done) | (simp [*]; done)), H', ⟨by first | omega | exact Nat.le_refl _⟩, ⟨by (with_reducible repeat (first | refine blk_drewN ?_ _ | refine blk_drew ?_ | refine blk_alloc ?_ _)); exact BK156.out⟩, ⟨by repeat (first | (with_reducible first | exact HB.out | apply below_alloc | apply pw_below_drewN | apply below_drew1 | refine below_set ?_ GE156.out) | exact HB.out)⟩⟩
            · rw [if_neg c16] at H
              have c16b0 : (a0_0 == 2) = false := beq_eq_false_iff_ne.mpr c16
              have c16b1 : (a0_0 != 2) = true := bne_iff_ne.mpr c16
              by_cases c20 : a0_0 = 3
              · rw [if_pos c20] at H
                have c20b0 : (a0_0 == 3) = true := beq_iff_eq.mpr c20
                have c20b1 : (a0_0 != 3) = false := bne_eq_false_iff_eq.mpr c20
                clear c20
                have H' := Aside0.mk H
                clear H
                have hcz21_0 : w3.cell? ⟨gb156, 0, none⟩ = some (.int .i64 a0_0) := (blk_cell BK156.out 0).trans rfl
                have hcz21_1 : w3.cell? ⟨gb156, 1, none⟩ = some (.int .i64 a0_1) := (blk_cell BK156.out 1).trans rfl
                have hcz21_2 : w3.cell? ⟨gb156, 2, none⟩ = some (.string a0_2) := (blk_cell BK156.out 2).trans rfl
                have hfz21_0 := blk_frozen BK156.out 0
                have hfz21_1 := blk_frozen BK156.out 1
                have hfz21_2 := blk_frozen BK156.out 2
                go_wp2
                go_meet
                case rel => exact ⟨_, ((a0_1 == 0)), (by first | rfl | (simp; done) | (simp [*]; done)), H', ⟨by first | omega | exact Nat.le_refl _⟩, ⟨by (with_reducible repeat (first | refine blk_drewN ?_ _ | refine blk_drew ?_ | refine blk_alloc ?_ _)); exact BK156.out⟩, ⟨by repeat (first | (with_reducible first | exact HB.out | apply below_alloc | apply pw_below_drewN | apply below_drew1 | refine below_set ?_ GE156.out) | exact HB.out)⟩⟩
              · rw [if_neg c20] at H
                have c20b0 : (a0_0 == 3) = false := beq_eq_false_iff_ne.mpr c20
                have c20b1 : (a0_0 != 3) = true := bne_iff_ne.mpr c20
                have H' := Aside0.mk H
                clear H
                have hcz22_0 : w3.cell? ⟨gb156, 0, none⟩ = some (.int .i64 a0_0) := (blk_cell BK156.out 0).trans rfl
                have hcz22_1 : w3.cell? ⟨gb156, 1, none⟩ = some (.int .i64 a0_1) := (blk_cell BK156.out 1).trans rfl
                have hcz22_2 : w3.cell? ⟨gb156, 2, none⟩ = some (.string a0_2) := (blk_cell BK156.out 2).trans rfl
                have hfz22_0 := blk_frozen BK156.out 0
                have hfz22_1 := blk_frozen BK156.out 1
                have hfz22_2 := blk_frozen BK156.out 2
                go_wp2
                go_meet
                case rel => exact ⟨_, (false), (by first | rfl | (simp; done) | (simp [*]; done)), H', ⟨by first | omega | exact Nat.le_refl _⟩, ⟨by (with_reducible repeat (first | refine blk_drewN ?_ _ | refine blk_drew ?_ | refine blk_alloc ?_ _)); exact BK156.out⟩, ⟨by repeat (first | (with_reducible first | exact HB.out | apply below_alloc | apply pw_below_drewN | apply below_drew1 | refine below_set ?_ GE156.out) | exact HB.out)⟩⟩
      · rw [if_neg c5] at H
        have c5b0 : (a0_1 == 0) = false := beq_eq_false_iff_ne.mpr c5
        have c5b1 : (a0_1 != 0) = true := bne_iff_ne.mpr c5
        by_cases c23 : a0_0 = 1
        · rw [if_pos c23] at H
          have c23b0 : (a0_0 == 1) = true := beq_iff_eq.mpr c23
          have c23b1 : (a0_0 != 1) = false := bne_eq_false_iff_eq.mpr c23
          clear c23
          by_cases c24 : a0_1 = 1
          · rw [if_pos c24] at H
            have c24b0 : (a0_1 == 1) = true := beq_iff_eq.mpr c24
            have c24b1 : (a0_1 != 1) = false := bne_eq_false_iff_eq.mpr c24
            clear c24
            by_cases c25 : a0_2.toList = ([] : List UInt8)
            · rw [if_pos c25] at H
              have c25b0 : (a0_2.toList == ([] : List UInt8)) = true := beq_iff_eq.mpr c25
              have c25b1 : (a0_2.toList != ([] : List UInt8)) = false := bne_eq_false_iff_eq.mpr c25
              clear c25
              have H' := Aside0.mk H
              clear H
              have hcz26_0 : w3.cell? ⟨gb156, 0, none⟩ = some (.int .i64 a0_0) := (blk_cell BK156.out 0).trans rfl
              have hcz26_1 : w3.cell? ⟨gb156, 1, none⟩ = some (.int .i64 a0_1) := (blk_cell BK156.out 1).trans rfl
              have hcz26_2 : w3.cell? ⟨gb156, 2, none⟩ = some (.string a0_2) := (blk_cell BK156.out 2).trans rfl
              have hfz26_0 := blk_frozen BK156.out 0
              have hfz26_1 := blk_frozen BK156.out 1
              have hfz26_2 := blk_frozen BK156.out 2
              go_wp2
              go_meet
              case rel => exact ⟨_, (true), (by first | rfl | (simp; done) | (simp [*]; done)), H', ⟨by first | omega | exact Nat.le_refl _⟩, ⟨by (with_reducible repeat (first | refine blk_drewN ?_ _ | refine blk_drew ?_ | refine blk_alloc ?_ _)); exact BK156.out⟩, ⟨by repeat (first | (with_reducible first | exact HB.out | apply below_alloc | apply pw_below_drewN | apply below_drew1 | refine below_set ?_ GE156.out) | exact HB.out)⟩⟩
            · rw [if_neg c25] at H
              have c25b0 : (a0_2.toList == ([] : List UInt8)) = false := beq_eq_false_iff_ne.mpr c25
              have c25b1 : (a0_2.toList != ([] : List UInt8)) = true := bne_iff_ne.mpr c25
              by_cases c27 : a0_0 = 2
              · rw [if_pos c27] at H
                have c27b0 : (a0_0 == 2) = true := beq_iff_eq.mpr c27
                have c27b1 : (a0_0 != 2) = false := bne_eq_false_iff_eq.mpr c27
                clear c27
                by_cases c28 : a0_0 = 3
                · rw [if_pos c28] at H
                  have c28b0 : (a0_0 == 3) = true := beq_iff_eq.mpr c28
                  have c28b1 : (a0_0 != 3) = false := bne_eq_false_iff_eq.mpr c28
                  clear c28
                  have H' := Aside0.mk H
                  clear H
                  have hcz29_0 : w3.cell? ⟨gb156, 0, none⟩ = some (.int .i64 a0_0) := (blk_cell BK156.out 0).trans rfl
                  have hcz29_1 : w3.cell? ⟨gb156, 1, none⟩ = some (.int .i64 a0_1) := (blk_cell BK156.out 1).trans rfl
                  have hcz29_2 : w3.cell? ⟨gb156, 2, none⟩ = some (.string a0_2) := (blk_cell BK156.out 2).trans rfl
                  have hfz29_0 := blk_frozen BK156.out 0
                  have hfz29_1 := blk_frozen BK156.out 1
                  have hfz29_2 := blk_frozen BK156.out 2
                  go_wp2
                  go_meet
                  case rel => exact ⟨_, ((a0_1 == 0)), (by first | rfl | (simp; done) | (simp [*]; done)), H', ⟨by first | omega | exact Nat.le_refl _⟩, ⟨by (with_reducible repeat (first | refine blk_drewN ?_ _ | refine blk_drew ?_ | refine blk_alloc ?_ _)); exact BK156.out⟩, ⟨by repeat (first | (with_reducible first | exact HB.out | apply below_alloc | apply pw_below_drewN | apply below_drew1 | refine below_set ?_ GE156.out) | exact HB.out)⟩⟩
                · rw [if_neg c28] at H
                  have c28b0 : (a0_0 == 3) = false := beq_eq_false_iff_ne.mpr c28
                  have c28b1 : (a0_0 != 3) = true := bne_iff_ne.mpr c28
                  have H' := Aside0.mk H
                  clear H
                  have hcz30_0 : w3.cell? ⟨gb156, 0, none⟩ = some (.int .i64 a0_0) := (blk_cell BK156.out 0).trans rfl
                  have hcz30_1 : w3.cell? ⟨gb156, 1, none⟩ = some (.int .i64 a0_1) := (blk_cell BK156.out 1).trans rfl
                  have hcz30_2 : w3.cell? ⟨gb156, 2, none⟩ = some (.string a0_2) := (blk_cell BK156.out 2).trans rfl
                  have hfz30_0 := blk_frozen BK156.out 0
                  have hfz30_1 := blk_frozen BK156.out 1
                  have hfz30_2 := blk_frozen BK156.out 2
                  go_wp2
                  go_meet
                  case rel => exact ⟨_, (false), (by first | rfl | (simp; done) | (simp [*]; done)), H', ⟨by first | omega | exact Nat.le_refl _⟩, ⟨by (with_reducible repeat (first | refine blk_drewN ?_ _ | refine blk_drew ?_ | refine blk_alloc ?_ _)); exact BK156.out⟩, ⟨by repeat (first | (with_reducible first | exact HB.out | apply below_alloc | apply pw_below_drewN | apply below_drew1 | refine below_set ?_ GE156.out) | exact HB.out)⟩⟩
              · rw [if_neg c27] at H
                have c27b0 : (a0_0 == 2) = false := beq_eq_false_iff_ne.mpr c27
                have c27b1 : (a0_0 != 2) = true := bne_iff_ne.mpr c27
                by_cases c31 : a0_0 = 3
                · rw [if_pos c31] at H
                  have c31b0 : (a0_0 == 3) = true := beq_iff_eq.mpr c31
                  have c31b1 : (a0_0 != 3) = false := bne_eq_false_iff_eq.mpr c31
                  clear c31
                  have H' := Aside0.mk H
                  clear H
                  have hcz32_0 : w3.cell? ⟨gb156, 0, none⟩ = some (.int .i64 a0_0) := (blk_cell BK156.out 0).trans rfl
                  have hcz32_1 : w3.cell? ⟨gb156, 1, none⟩ = some (.int .i64 a0_1) := (blk_cell BK156.out 1).trans rfl
                  have hcz32_2 : w3.cell? ⟨gb156, 2, none⟩ = some (.string a0_2) := (blk_cell BK156.out 2).trans rfl
                  have hfz32_0 := blk_frozen BK156.out 0
                  have hfz32_1 := blk_frozen BK156.out 1
                  have hfz32_2 := blk_frozen BK156.out 2
                  go_wp2
                  go_meet
                  case rel => exact ⟨_, ((a0_1 == 0)), (by first | rfl | (simp; done) | (simp [*]; done)), H', ⟨by first | omega | exact Nat.le_refl _⟩, ⟨by (with_reducible repeat (first | refine blk_drewN ?_ _ | refine blk_drew ?_ | refine blk_alloc ?_ _)); exact BK156.out⟩, ⟨by repeat (first | (with_reducible first | exact HB.out | apply below_alloc | apply pw_below_drewN | apply below_drew1 | refine below_set ?_ GE156.out) | exact HB.out)⟩⟩
                · rw [if_neg c31] at H
                  have c31b0 : (a0_0 == 3) = false := beq_eq_false_iff_ne.mpr c31
                  have c31b1 : (a0_0 != 3) = true := bne_iff_ne.mpr c31
                  have H' := Aside0.mk H
                  clear H
                  have hcz33_0 : w3.cell? ⟨gb156, 0, none⟩ = some (.int .i64 a0_0) := (blk_cell BK156.out 0).trans rfl
                  have hcz33_1 : w3.cell? ⟨gb156, 1, none⟩ = some (.int .i64 a0_1) := (blk_cell BK156.out 1).trans rfl
                  have hcz33_2 : w3.cell? ⟨gb156, 2, none⟩ = some (.string a0_2) := (blk_cell BK156.out 2).trans rfl
                  have hfz33_0 := blk_frozen BK156.out 0
                  have hfz33_1 := blk_frozen BK156.out 1
                  have hfz33_2 := blk_frozen BK156.out 2
                  go_wp2
                  go_meet
                  case rel => exact ⟨_, (false), (by first | rfl | (simp; done) | (simp [*]; done)), H', ⟨by first | omega | exact Nat.le_refl _⟩, ⟨by (with_reducible repeat (first | refine blk_drewN ?_ _ | refine blk_drew ?_ | refine blk_alloc ?_ _)); exact BK156.out⟩, ⟨by repeat (first | (with_reducible first | exact HB.out | apply below_alloc | apply pw_below_drewN | apply below_drew1 | refine below_set ?_ GE156.out) | exact HB.out)⟩⟩
          · rw [if_neg c24] at H
            have c24b0 : (a0_1 == 1) = false := beq_eq_false_iff_ne.mpr c24
            have c24b1 : (a0_1 != 1) = true := bne_iff_ne.mpr c24
            by_cases c34 : a0_0 = 2
            · rw [if_pos c34] at H
              have c34b0 : (a0_0 == 2) = true := beq_iff_eq.mpr c34
              have c34b1 : (a0_0 != 2) = false := bne_eq_false_iff_eq.mpr c34
              clear c34
              by_cases c35 : a0_2.toList = ([] : List UInt8)
              · rw [if_pos c35] at H
                have c35b0 : (a0_2.toList == ([] : List UInt8)) = true := beq_iff_eq.mpr c35
                have c35b1 : (a0_2.toList != ([] : List UInt8)) = false := bne_eq_false_iff_eq.mpr c35
                clear c35
                have H' := Aside0.mk H
                clear H
                have hcz36_0 : w3.cell? ⟨gb156, 0, none⟩ = some (.int .i64 a0_0) := (blk_cell BK156.out 0).trans rfl
                have hcz36_1 : w3.cell? ⟨gb156, 1, none⟩ = some (.int .i64 a0_1) := (blk_cell BK156.out 1).trans rfl
                have hcz36_2 : w3.cell? ⟨gb156, 2, none⟩ = some (.string a0_2) := (blk_cell BK156.out 2).trans rfl
                have hfz36_0 := blk_frozen BK156.out 0
                have hfz36_1 := blk_frozen BK156.out 1
                have hfz36_2 := blk_frozen BK156.out 2
                go_wp2
                go_meet
                case rel => exact ⟨_, (true), (by first | rfl | (simp; done) | (simp [*]; done)), H', ⟨by first | omega | exact Nat.le_refl _⟩, ⟨by (with_reducible repeat (first | refine blk_drewN ?_ _ | refine blk_drew ?_ | refine blk_alloc ?_ _)); exact BK156.out⟩, ⟨by repeat (first | (with_reducible first | exact HB.out | apply below_alloc | apply pw_below_drewN | apply below_drew1 | refine below_set ?_ GE156.out) | exact HB.out)⟩⟩
              · rw [if_neg c35] at H
                have c35b0 : (a0_2.toList == ([] : List UInt8)) = false := beq_eq_false_iff_ne.mpr c35
                have c35b1 : (a0_2.toList != ([] : List UInt8)) = true := bne_iff_ne.mpr c35
                by_cases c37 : a0_0 = 3
                · rw [if_pos c37] at H
                  have c37b0 : (a0_0 == 3) = true := beq_iff_eq.mpr c37
                  have c37b1 : (a0_0 != 3) = false := bne_eq_false_iff_eq.mpr c37
                  clear c37
                  have H' := Aside0.mk H
                  clear H
                  have hcz38_0 : w3.cell? ⟨gb156, 0, none⟩ = some (.int .i64 a0_0) := (blk_cell BK156.out 0).trans rfl
                  have hcz38_1 : w3.cell? ⟨gb156, 1, none⟩ = some (.int .i64 a0_1) := (blk_cell BK156.out 1).trans rfl
                  have hcz38_2 : w3.cell? ⟨gb156, 2, none⟩ = some (.string a0_2) := (blk_cell BK156.out 2).trans rfl
                  have hfz38_0 := blk_frozen BK156.out 0
                  have hfz38_1 := blk_frozen BK156.out 1
                  have hfz38_2 := blk_frozen BK156.out 2
                  go_wp2
                  go_meet
                  case rel => exact ⟨_, ((a0_1 == 0)), (by first | rfl | (simp; done) | (simp [*]; done)), H', ⟨by first | omega | exact Nat.le_refl _⟩, ⟨by (with_reducible repeat (first | refine blk_drewN ?_ _ | refine blk_drew ?_ | refine blk_alloc ?_ _)); exact BK156.out⟩, ⟨by repeat (first | (with_reducible first | exact HB.out | apply below_alloc | apply pw_below_drewN | apply below_drew1 | refine below_set ?_ GE156.out) | exact HB.out)⟩⟩
                · rw [if_neg c37] at H
                  have c37b0 : (a0_0 == 3) = false := beq_eq_false_iff_ne.mpr c37
                  have c37b1 : (a0_0 != 3) = true := bne_iff_ne.mpr c37
                  have H' := Aside0.mk H
                  clear H
                  have hcz39_0 : w3.cell? ⟨gb156, 0, none⟩ = some (.int .i64 a0_0) := (blk_cell BK156.out 0).trans rfl
                  have hcz39_1 : w3.cell? ⟨gb156, 1, none⟩ = some (.int .i64 a0_1) := (blk_cell BK156.out 1).trans rfl
                  have hcz39_2 : w3.cell? ⟨gb156, 2, none⟩ = some (.string a0_2) := (blk_cell BK156.out 2).trans rfl
                  have hfz39_0 := blk_frozen BK156.out 0
                  have hfz39_1 := blk_frozen BK156.out 1
                  have hfz39_2 := blk_frozen BK156.out 2
                  go_wp2
                  go_meet
                  case rel => exact ⟨_, (false), (by first | rfl | (simp; done) | (simp [*]; done)), H', ⟨by first | omega | exact Nat.le_refl _⟩, ⟨by (with_reducible repeat (first | refine blk_drewN ?_ _ | refine blk_drew ?_ | refine blk_alloc ?_ _)); exact BK156.out⟩, ⟨by repeat (first | (with_reducible first | exact HB.out | apply below_alloc | apply pw_below_drewN | apply below_drew1 | refine below_set ?_ GE156.out) | exact HB.out)⟩⟩
            · rw [if_neg c34] at H
              have c34b0 : (a0_0 == 2) = false := beq_eq_false_iff_ne.mpr c34
              have c34b1 : (a0_0 != 2) = true := bne_iff_ne.mpr c34
              by_cases c40 : a0_0 = 3
              · rw [if_pos c40] at H
                have c40b0 : (a0_0 == 3) = true := beq_iff_eq.mpr c40
                have c40b1 : (a0_0 != 3) = false := bne_eq_false_iff_eq.mpr c40
                clear c40
                have H' := Aside0.mk H
                clear H
                have hcz41_0 : w3.cell? ⟨gb156, 0, none⟩ = some (.int .i64 a0_0) := (blk_cell BK156.out 0).trans rfl
                have hcz41_1 : w3.cell? ⟨gb156, 1, none⟩ = some (.int .i64 a0_1) := (blk_cell BK156.out 1).trans rfl
                have hcz41_2 : w3.cell? ⟨gb156, 2, none⟩ = some (.string a0_2) := (blk_cell BK156.out 2).trans rfl
                have hfz41_0 := blk_frozen BK156.out 0
                have hfz41_1 := blk_frozen BK156.out 1
                have hfz41_2 := blk_frozen BK156.out 2
                go_wp2
                go_meet
                case rel => exact ⟨_, ((a0_1 == 0)), (by first | rfl | (simp; done) | (simp [*]; done)), H', ⟨by first | omega | exact Nat.le_refl _⟩, ⟨by (with_reducible repeat (first | refine blk_drewN ?_ _ | refine blk_drew ?_ | refine blk_alloc ?_ _)); exact BK156.out⟩, ⟨by repeat (first | (with_reducible first | exact HB.out | apply below_alloc | apply pw_below_drewN | apply below_drew1 | refine below_set ?_ GE156.out) | exact HB.out)⟩⟩
              · rw [if_neg c40] at H
                have c40b0 : (a0_0 == 3) = false := beq_eq_false_iff_ne.mpr c40
                have c40b1 : (a0_0 != 3) = true := bne_iff_ne.mpr c40
                have H' := Aside0.mk H
                clear H
                have hcz42_0 : w3.cell? ⟨gb156, 0, none⟩ = some (.int .i64 a0_0) := (blk_cell BK156.out 0).trans rfl
                have hcz42_1 : w3.cell? ⟨gb156, 1, none⟩ = some (.int .i64 a0_1) := (blk_cell BK156.out 1).trans rfl
                have hcz42_2 : w3.cell? ⟨gb156, 2, none⟩ = some (.string a0_2) := (blk_cell BK156.out 2).trans rfl
                have hfz42_0 := blk_frozen BK156.out 0
                have hfz42_1 := blk_frozen BK156.out 1
                have hfz42_2 := blk_frozen BK156.out 2
                go_wp2
                go_meet
                case rel => exact ⟨_, (false), (by first | rfl | (simp; done) | (simp [*]; done)), H', ⟨by first | omega | exact Nat.le_refl _⟩, ⟨by (with_reducible repeat (first | refine blk_drewN ?_ _ | refine blk_drew ?_ | refine blk_alloc ?_ _)); exact BK156.out⟩, ⟨by repeat (first | (with_reducible first | exact HB.out | apply below_alloc | apply pw_below_drewN | apply below_drew1 | refine below_set ?_ GE156.out) | exact HB.out)⟩⟩
        · rw [if_neg c23] at H
          have c23b0 : (a0_0 == 1) = false := beq_eq_false_iff_ne.mpr c23
          have c23b1 : (a0_0 != 1) = true := bne_iff_ne.mpr c23
          by_cases c43 : a0_0 = 2
          · rw [if_pos c43] at H
            have c43b0 : (a0_0 == 2) = true := beq_iff_eq.mpr c43
            have c43b1 : (a0_0 != 2) = false := bne_eq_false_iff_eq.mpr c43
            clear c43
            by_cases c44 : a0_2.toList = ([] : List UInt8)
            · rw [if_pos c44] at H
              have c44b0 : (a0_2.toList == ([] : List UInt8)) = true := beq_iff_eq.mpr c44
              have c44b1 : (a0_2.toList != ([] : List UInt8)) = false := bne_eq_false_iff_eq.mpr c44
              clear c44
              have H' := Aside0.mk H
              clear H
              have hcz45_0 : w3.cell? ⟨gb156, 0, none⟩ = some (.int .i64 a0_0) := (blk_cell BK156.out 0).trans rfl
              have hcz45_1 : w3.cell? ⟨gb156, 1, none⟩ = some (.int .i64 a0_1) := (blk_cell BK156.out 1).trans rfl
              have hcz45_2 : w3.cell? ⟨gb156, 2, none⟩ = some (.string a0_2) := (blk_cell BK156.out 2).trans rfl
              have hfz45_0 := blk_frozen BK156.out 0
              have hfz45_1 := blk_frozen BK156.out 1
              have hfz45_2 := blk_frozen BK156.out 2
              go_wp2
              go_meet
              case rel => exact ⟨_, (true), (by first | rfl | (simp; done) | (simp [*]; done)), H', ⟨by first | omega | exact Nat.le_refl _⟩, ⟨by (with_reducible repeat (first | refine blk_drewN ?_ _ | refine blk_drew ?_ | refine blk_alloc ?_ _)); exact BK156.out⟩, ⟨by repeat (first | (with_reducible first | exact HB.out | apply below_alloc | apply pw_below_drewN | apply below_drew1 | refine below_set ?_ GE156.out) | exact HB.out)⟩⟩
            · rw [if_neg c44] at H
              have c44b0 : (a0_2.toList == ([] : List UInt8)) = false := beq_eq_false_iff_ne.mpr c44
              have c44b1 : (a0_2.toList != ([] : List UInt8)) = true := bne_iff_ne.mpr c44
              by_cases c46 : a0_0 = 3
              · rw [if_pos c46] at H
                have c46b0 : (a0_0 == 3) = true := beq_iff_eq.mpr c46
                have c46b1 : (a0_0 != 3) = false := bne_eq_false_iff_eq.mpr c46
                clear c46
                have H' := Aside0.mk H
                clear H
                have hcz47_0 : w3.cell? ⟨gb156, 0, none⟩ = some (.int .i64 a0_0) := (blk_cell BK156.out 0).trans rfl
                have hcz47_1 : w3.cell? ⟨gb156, 1, none⟩ = some (.int .i64 a0_1) := (blk_cell BK156.out 1).trans rfl
                have hcz47_2 : w3.cell? ⟨gb156, 2, none⟩ = some (.string a0_2) := (blk_cell BK156.out 2).trans rfl
                have hfz47_0 := blk_frozen BK156.out 0
                have hfz47_1 := blk_frozen BK156.out 1
                have hfz47_2 := blk_frozen BK156.out 2
                go_wp2
                go_meet
                case rel => exact ⟨_, ((a0_1 == 0)), (by first | rfl | (simp; done) | (simp [*]; done)), H', ⟨by first | omega | exact Nat.le_refl _⟩, ⟨by (with_reducible repeat (first | refine blk_drewN ?_ _ | refine blk_drew ?_ | refine blk_alloc ?_ _)); exact BK156.out⟩, ⟨by repeat (first | (with_reducible first | exact HB.out | apply below_alloc | apply pw_below_drewN | apply below_drew1 | refine below_set ?_ GE156.out) | exact HB.out)⟩⟩
              · rw [if_neg c46] at H
                have c46b0 : (a0_0 == 3) = false := beq_eq_false_iff_ne.mpr c46
                have c46b1 : (a0_0 != 3) = true := bne_iff_ne.mpr c46
                have H' := Aside0.mk H
                clear H
                have hcz48_0 : w3.cell? ⟨gb156, 0, none⟩ = some (.int .i64 a0_0) := (blk_cell BK156.out 0).trans rfl
                have hcz48_1 : w3.cell? ⟨gb156, 1, none⟩ = some (.int .i64 a0_1) := (blk_cell BK156.out 1).trans rfl
                have hcz48_2 : w3.cell? ⟨gb156, 2, none⟩ = some (.string a0_2) := (blk_cell BK156.out 2).trans rfl
                have hfz48_0 := blk_frozen BK156.out 0
                have hfz48_1 := blk_frozen BK156.out 1
                have hfz48_2 := blk_frozen BK156.out 2
                go_wp2
                go_meet
                case rel => exact ⟨_, (false), (by first | rfl | (simp; done) | (simp [*]; done)), H', ⟨by first | omega | exact Nat.le_refl _⟩, ⟨by (with_reducible repeat (first | refine blk_drewN ?_ _ | refine blk_drew ?_ | refine blk_alloc ?_ _)); exact BK156.out⟩, ⟨by repeat (first | (with_reducible first | exact HB.out | apply below_alloc | apply pw_below_drewN | apply below_drew1 | refine below_set ?_ GE156.out) | exact HB.out)⟩⟩
          · rw [if_neg c43] at H
            have c43b0 : (a0_0 == 2) = false := beq_eq_false_iff_ne.mpr c43
            have c43b1 : (a0_0 != 2) = true := bne_iff_ne.mpr c43
            by_cases c49 : a0_0 = 3
            · rw [if_pos c49] at H
              have c49b0 : (a0_0 == 3) = true := beq_iff_eq.mpr c49
              have c49b1 : (a0_0 != 3) = false := bne_eq_false_iff_eq.mpr c49
              clear c49
              have H' := Aside0.mk H
              clear H
              have hcz50_0 : w3.cell? ⟨gb156, 0, none⟩ = some (.int .i64 a0_0) := (blk_cell BK156.out 0).trans rfl
              have hcz50_1 : w3.cell? ⟨gb156, 1, none⟩ = some (.int .i64 a0_1) := (blk_cell BK156.out 1).trans rfl
              have hcz50_2 : w3.cell? ⟨gb156, 2, none⟩ = some (.string a0_2) := (blk_cell BK156.out 2).trans rfl
              have hfz50_0 := blk_frozen BK156.out 0
              have hfz50_1 := blk_frozen BK156.out 1
              have hfz50_2 := blk_frozen BK156.out 2
              go_wp2
              go_meet
              case rel => exact ⟨_, ((a0_1 == 0)), (by first | rfl | (simp; done) | (simp [*]; done)), H', ⟨by first | omega | exact Nat.le_refl _⟩, ⟨by (with_reducible repeat (first | refine blk_drewN ?_ _ | refine blk_drew ?_ | refine blk_alloc ?_ _)); exact BK156.out⟩, ⟨by repeat (first | (with_reducible first | exact HB.out | apply below_alloc | apply pw_below_drewN | apply below_drew1 | refine below_set ?_ GE156.out) | exact HB.out)⟩⟩
            · rw [if_neg c49] at H
              have c49b0 : (a0_0 == 3) = false := beq_eq_false_iff_ne.mpr c49
              have c49b1 : (a0_0 != 3) = true := bne_iff_ne.mpr c49
              have H' := Aside0.mk H
              clear H
              have hcz51_0 : w3.cell? ⟨gb156, 0, none⟩ = some (.int .i64 a0_0) := (blk_cell BK156.out 0).trans rfl
              have hcz51_1 : w3.cell? ⟨gb156, 1, none⟩ = some (.int .i64 a0_1) := (blk_cell BK156.out 1).trans rfl
              have hcz51_2 : w3.cell? ⟨gb156, 2, none⟩ = some (.string a0_2) := (blk_cell BK156.out 2).trans rfl
              have hfz51_0 := blk_frozen BK156.out 0
              have hfz51_1 := blk_frozen BK156.out 1
              have hfz51_2 := blk_frozen BK156.out 2
              go_wp2
              go_meet
              case rel => exact ⟨_, (false), (by first | rfl | (simp; done) | (simp [*]; done)), H', ⟨by first | omega | exact Nat.le_refl _⟩, ⟨by (with_reducible repeat (first | refine blk_drewN ?_ _ | refine blk_drew ?_ | refine blk_alloc ?_ _)); exact BK156.out⟩, ⟨by repeat (first | (with_reducible first | exact HB.out | apply below_alloc | apply pw_below_drewN | apply below_drew1 | refine below_set ?_ GE156.out) | exact HB.out)⟩⟩
    · rw [if_neg c4] at H
      have c4b0 : (a0_0 == 0) = false := beq_eq_false_iff_ne.mpr c4
      have c4b1 : (a0_0 != 0) = true := bne_iff_ne.mpr c4
      (first | rw [c4b0] | (simp only [i64_w, i32_w]; rw [c4b0]) | skip)
      by_cases c52 : a0_0 = 1
      · rw [if_pos c52] at H
        have c52b0 : (a0_0 == 1) = true := beq_iff_eq.mpr c52
        have c52b1 : (a0_0 != 1) = false := bne_eq_false_iff_eq.mpr c52
        clear c52
        by_cases c53 : a0_1 = 0
        · rw [if_pos c53] at H
          have c53b0 : (a0_1 == 0) = true := beq_iff_eq.mpr c53
          have c53b1 : (a0_1 != 0) = false := bne_eq_false_iff_eq.mpr c53
          clear c53
          by_cases c54 : a0_2.toList = ([] : List UInt8)
          · rw [if_pos c54] at H
            have c54b0 : (a0_2.toList == ([] : List UInt8)) = true := beq_iff_eq.mpr c54
            have c54b1 : (a0_2.toList != ([] : List UInt8)) = false := bne_eq_false_iff_eq.mpr c54
            clear c54
            have H' := Aside0.mk H
            clear H
            have hcz55_0 : w3.cell? ⟨gb156, 0, none⟩ = some (.int .i64 a0_0) := (blk_cell BK156.out 0).trans rfl
            have hcz55_1 : w3.cell? ⟨gb156, 1, none⟩ = some (.int .i64 a0_1) := (blk_cell BK156.out 1).trans rfl
            have hcz55_2 : w3.cell? ⟨gb156, 2, none⟩ = some (.string a0_2) := (blk_cell BK156.out 2).trans rfl
            have hfz55_0 := blk_frozen BK156.out 0
            have hfz55_1 := blk_frozen BK156.out 1
            have hfz55_2 := blk_frozen BK156.out 2
            go_wp2
            go_meet
            case rel => exact ⟨_, (true), (by first | rfl | (simp; done) | (simp [*]; done)), H', ⟨by first | omega | exact Nat.le_refl _⟩, ⟨by (with_reducible repeat (first | refine blk_drewN ?_ _ | refine blk_drew ?_ | refine blk_alloc ?_ _)); exact BK156.out⟩, ⟨by repeat (first | (with_reducible first | exact HB.out | apply below_alloc | apply pw_below_drewN | apply below_drew1 | refine below_set ?_ GE156.out) | exact HB.out)⟩⟩
          · rw [if_neg c54] at H
            have c54b0 : (a0_2.toList == ([] : List UInt8)) = false := beq_eq_false_iff_ne.mpr c54
            have c54b1 : (a0_2.toList != ([] : List UInt8)) = true := bne_iff_ne.mpr c54
            by_cases c56 : a0_0 = 2
            · rw [if_pos c56] at H
              have c56b0 : (a0_0 == 2) = true := beq_iff_eq.mpr c56
              have c56b1 : (a0_0 != 2) = false := bne_eq_false_iff_eq.mpr c56
              clear c56
              by_cases c57 : a0_0 = 3
              · rw [if_pos c57] at H
                have c57b0 : (a0_0 == 3) = true := beq_iff_eq.mpr c57
                have c57b1 : (a0_0 != 3) = false := bne_eq_false_iff_eq.mpr c57
                clear c57
                have H' := Aside0.mk H
                clear H
                have hcz58_0 : w3.cell? ⟨gb156, 0, none⟩ = some (.int .i64 a0_0) := (blk_cell BK156.out 0).trans rfl
                have hcz58_1 : w3.cell? ⟨gb156, 1, none⟩ = some (.int .i64 a0_1) := (blk_cell BK156.out 1).trans rfl
                have hcz58_2 : w3.cell? ⟨gb156, 2, none⟩ = some (.string a0_2) := (blk_cell BK156.out 2).trans rfl
                have hfz58_0 := blk_frozen BK156.out 0
                have hfz58_1 := blk_frozen BK156.out 1
                have hfz58_2 := blk_frozen BK156.out 2
                go_wp2
                go_meet
                case rel => exact ⟨_, ((a0_1 == 0)), (by first | rfl | (simp; done) | (simp [*]; done)), H', ⟨by first | omega | exact Nat.le_refl _⟩, ⟨by (with_reducible repeat (first | refine blk_drewN ?_ _ | refine blk_drew ?_ | refine blk_alloc ?_ _)); exact BK156.out⟩, ⟨by repeat (first | (with_reducible first | exact HB.out | apply below_alloc | apply pw_below_drewN | apply below_drew1 | refine below_set ?_ GE156.out) | exact HB.out)⟩⟩
              · rw [if_neg c57] at H
                have c57b0 : (a0_0 == 3) = false := beq_eq_false_iff_ne.mpr c57
                have c57b1 : (a0_0 != 3) = true := bne_iff_ne.mpr c57
                have H' := Aside0.mk H
                clear H
                have hcz59_0 : w3.cell? ⟨gb156, 0, none⟩ = some (.int .i64 a0_0) := (blk_cell BK156.out 0).trans rfl
                have hcz59_1 : w3.cell? ⟨gb156, 1, none⟩ = some (.int .i64 a0_1) := (blk_cell BK156.out 1).trans rfl
                have hcz59_2 : w3.cell? ⟨gb156, 2, none⟩ = some (.string a0_2) := (blk_cell BK156.out 2).trans rfl
                have hfz59_0 := blk_frozen BK156.out 0
                have hfz59_1 := blk_frozen BK156.out 1
                have hfz59_2 := blk_frozen BK156.out 2
                go_wp2
                go_meet
                case rel => exact ⟨_, (false), (by first | rfl | (simp; done) | (simp [*]; done)), H', ⟨by first | omega | exact Nat.le_refl _⟩, ⟨by (with_reducible repeat (first | refine blk_drewN ?_ _ | refine blk_drew ?_ | refine blk_alloc ?_ _)); exact BK156.out⟩, ⟨by repeat (first | (with_reducible first | exact HB.out | apply below_alloc | apply pw_below_drewN | apply below_drew1 | refine below_set ?_ GE156.out) | exact HB.out)⟩⟩
            · rw [if_neg c56] at H
              have c56b0 : (a0_0 == 2) = false := beq_eq_false_iff_ne.mpr c56
              have c56b1 : (a0_0 != 2) = true := bne_iff_ne.mpr c56
              by_cases c60 : a0_0 = 3
              · rw [if_pos c60] at H
                have c60b0 : (a0_0 == 3) = true := beq_iff_eq.mpr c60
                have c60b1 : (a0_0 != 3) = false := bne_eq_false_iff_eq.mpr c60
                clear c60
                have H' := Aside0.mk H
                clear H
                have hcz61_0 : w3.cell? ⟨gb156, 0, none⟩ = some (.int .i64 a0_0) := (blk_cell BK156.out 0).trans rfl
                have hcz61_1 : w3.cell? ⟨gb156, 1, none⟩ = some (.int .i64 a0_1) := (blk_cell BK156.out 1).trans rfl
                have hcz61_2 : w3.cell? ⟨gb156, 2, none⟩ = some (.string a0_2) := (blk_cell BK156.out 2).trans rfl
                have hfz61_0 := blk_frozen BK156.out 0
                have hfz61_1 := blk_frozen BK156.out 1
                have hfz61_2 := blk_frozen BK156.out 2
                go_wp2
                go_meet
                case rel => exact ⟨_, ((a0_1 == 0)), (by first | rfl | (simp; done) | (simp [*]; done)), H', ⟨by first | omega | exact Nat.le_refl _⟩, ⟨by (with_reducible repeat (first | refine blk_drewN ?_ _ | refine blk_drew ?_ | refine blk_alloc ?_ _)); exact BK156.out⟩, ⟨by repeat (first | (with_reducible first | exact HB.out | apply below_alloc | apply pw_below_drewN | apply below_drew1 | refine below_set ?_ GE156.out) | exact HB.out)⟩⟩
              · rw [if_neg c60] at H
                have c60b0 : (a0_0 == 3) = false := beq_eq_false_iff_ne.mpr c60
                have c60b1 : (a0_0 != 3) = true := bne_iff_ne.mpr c60
                have H' := Aside0.mk H
                clear H
                have hcz62_0 : w3.cell? ⟨gb156, 0, none⟩ = some (.int .i64 a0_0) := (blk_cell BK156.out 0).trans rfl
                have hcz62_1 : w3.cell? ⟨gb156, 1, none⟩ = some (.int .i64 a0_1) := (blk_cell BK156.out 1).trans rfl
                have hcz62_2 : w3.cell? ⟨gb156, 2, none⟩ = some (.string a0_2) := (blk_cell BK156.out 2).trans rfl
                have hfz62_0 := blk_frozen BK156.out 0
                have hfz62_1 := blk_frozen BK156.out 1
                have hfz62_2 := blk_frozen BK156.out 2
                go_wp2
                go_meet
                case rel => exact ⟨_, (false), (by first | rfl | (simp; done) | (simp [*]; done)), H', ⟨by first | omega | exact Nat.le_refl _⟩, ⟨by (with_reducible repeat (first | refine blk_drewN ?_ _ | refine blk_drew ?_ | refine blk_alloc ?_ _)); exact BK156.out⟩, ⟨by repeat (first | (with_reducible first | exact HB.out | apply below_alloc | apply pw_below_drewN | apply below_drew1 | refine below_set ?_ GE156.out) | exact HB.out)⟩⟩
        · rw [if_neg c53] at H
          have c53b0 : (a0_1 == 0) = false := beq_eq_false_iff_ne.mpr c53
          have c53b1 : (a0_1 != 0) = true := bne_iff_ne.mpr c53
          by_cases c63 : a0_1 = 1
          · rw [if_pos c63] at H
            have c63b0 : (a0_1 == 1) = true := beq_iff_eq.mpr c63
            have c63b1 : (a0_1 != 1) = false := bne_eq_false_iff_eq.mpr c63
            clear c63
            by_cases c64 : a0_2.toList = ([] : List UInt8)
            · rw [if_pos c64] at H
              have c64b0 : (a0_2.toList == ([] : List UInt8)) = true := beq_iff_eq.mpr c64
              have c64b1 : (a0_2.toList != ([] : List UInt8)) = false := bne_eq_false_iff_eq.mpr c64
              clear c64
              have H' := Aside0.mk H
              clear H
              have hcz65_0 : w3.cell? ⟨gb156, 0, none⟩ = some (.int .i64 a0_0) := (blk_cell BK156.out 0).trans rfl
              have hcz65_1 : w3.cell? ⟨gb156, 1, none⟩ = some (.int .i64 a0_1) := (blk_cell BK156.out 1).trans rfl
              have hcz65_2 : w3.cell? ⟨gb156, 2, none⟩ = some (.string a0_2) := (blk_cell BK156.out 2).trans rfl
              have hfz65_0 := blk_frozen BK156.out 0
              have hfz65_1 := blk_frozen BK156.out 1
              have hfz65_2 := blk_frozen BK156.out 2
              go_wp2
              go_meet
              case rel => exact ⟨_, (true), (by first | rfl | (simp; done) | (simp [*]; done)), H', ⟨by first | omega | exact Nat.le_refl _⟩, ⟨by (with_reducible repeat (first | refine blk_drewN ?_ _ | refine blk_drew ?_ | refine blk_alloc ?_ _)); exact BK156.out⟩, ⟨by repeat (first | (with_reducible first | exact HB.out | apply below_alloc | apply pw_below_drewN | apply below_drew1 | refine below_set ?_ GE156.out) | exact HB.out)⟩⟩
            · rw [if_neg c64] at H
              have c64b0 : (a0_2.toList == ([] : List UInt8)) = false := beq_eq_false_iff_ne.mpr c64
              have c64b1 : (a0_2.toList != ([] : List UInt8)) = true := bne_iff_ne.mpr c64
              by_cases c66 : a0_0 = 2
              · rw [if_pos c66] at H
                have c66b0 : (a0_0 == 2) = true := beq_iff_eq.mpr c66
                have c66b1 : (a0_0 != 2) = false := bne_eq_false_iff_eq.mpr c66
                clear c66
                by_cases c67 : a0_0 = 3
                · rw [if_pos c67] at H
                  have c67b0 : (a0_0 == 3) = true := beq_iff_eq.mpr c67
                  have c67b1 : (a0_0 != 3) = false := bne_eq_false_iff_eq.mpr c67
                  clear c67
                  have H' := Aside0.mk H
                  clear H
                  have hcz68_0 : w3.cell? ⟨gb156, 0, none⟩ = some (.int .i64 a0_0) := (blk_cell BK156.out 0).trans rfl
                  have hcz68_1 : w3.cell? ⟨gb156, 1, none⟩ = some (.int .i64 a0_1) := (blk_cell BK156.out 1).trans rfl
                  have hcz68_2 : w3.cell? ⟨gb156, 2, none⟩ = some (.string a0_2) := (blk_cell BK156.out 2).trans rfl
                  have hfz68_0 := blk_frozen BK156.out 0
                  have hfz68_1 := blk_frozen BK156.out 1
                  have hfz68_2 := blk_frozen BK156.out 2
                  go_wp2
                  go_meet
                  case rel => exact ⟨_, ((a0_1 == 0)), (by first | rfl | (simp; done) | (simp [*]; done)), H', ⟨by first | omega | exact Nat.le_refl _⟩, ⟨by (with_reducible repeat (first | refine blk_drewN ?_ _ | refine blk_drew ?_ | refine blk_alloc ?_ _)); exact BK156.out⟩, ⟨by repeat (first | (with_reducible first | exact HB.out | apply below_alloc | apply pw_below_drewN | apply below_drew1 | refine below_set ?_ GE156.out) | exact HB.out)⟩⟩
                · rw [if_neg c67] at H
                  have c67b0 : (a0_0 == 3) = false := beq_eq_false_iff_ne.mpr c67
                  have c67b1 : (a0_0 != 3) = true := bne_iff_ne.mpr c67
                  have H' := Aside0.mk H
                  clear H
                  have hcz69_0 : w3.cell? ⟨gb156, 0, none⟩ = some (.int .i64 a0_0) := (blk_cell BK156.out 0).trans rfl
                  have hcz69_1 : w3.cell? ⟨gb156, 1, none⟩ = some (.int .i64 a0_1) := (blk_cell BK156.out 1).trans rfl
                  have hcz69_2 : w3.cell? ⟨gb156, 2, none⟩ = some (.string a0_2) := (blk_cell BK156.out 2).trans rfl
                  have hfz69_0 := blk_frozen BK156.out 0
                  have hfz69_1 := blk_frozen BK156.out 1
                  have hfz69_2 := blk_frozen BK156.out 2
                  go_wp2
                  go_meet
                  case rel => exact ⟨_, (false), (by first | rfl | (simp; done) | (simp [*]; done)), H', ⟨by first | omega | exact Nat.le_refl _⟩, ⟨by (with_reducible repeat (first | refine blk_drewN ?_ _ | refine blk_drew ?_ | refine blk_alloc ?_ _)); exact BK156.out⟩, ⟨by repeat (first | (with_reducible first | exact HB.out | apply below_alloc | apply pw_below_drewN | apply below_drew1 | refine below_set ?_ GE156.out) | exact HB.out)⟩⟩
              · rw [if_neg c66] at H
                have c66b0 : (a0_0 == 2) = false := beq_eq_false_iff_ne.mpr c66
                have c66b1 : (a0_0 != 2) = true := bne_iff_ne.mpr c66
                by_cases c70 : a0_0 = 3
                · rw [if_pos c70] at H
                  have c70b0 : (a0_0 == 3) = true := beq_iff_eq.mpr c70
                  have c70b1 : (a0_0 != 3) = false := bne_eq_false_iff_eq.mpr c70
                  clear c70
                  have H' := Aside0.mk H
                  clear H
                  have hcz71_0 : w3.cell? ⟨gb156, 0, none⟩ = some (.int .i64 a0_0) := (blk_cell BK156.out 0).trans rfl
                  have hcz71_1 : w3.cell? ⟨gb156, 1, none⟩ = some (.int .i64 a0_1) := (blk_cell BK156.out 1).trans rfl
                  have hcz71_2 : w3.cell? ⟨gb156, 2, none⟩ = some (.string a0_2) := (blk_cell BK156.out 2).trans rfl
                  have hfz71_0 := blk_frozen BK156.out 0
                  have hfz71_1 := blk_frozen BK156.out 1
                  have hfz71_2 := blk_frozen BK156.out 2
                  go_wp2
                  go_meet
                  case rel => exact ⟨_, ((a0_1 == 0)), (by first | rfl | (simp; done) | (simp [*]; done)), H', ⟨by first | omega | exact Nat.le_refl _⟩, ⟨by (with_reducible repeat (first | refine blk_drewN ?_ _ | refine blk_drew ?_ | refine blk_alloc ?_ _)); exact BK156.out⟩, ⟨by repeat (first | (with_reducible first | exact HB.out | apply below_alloc | apply pw_below_drewN | apply below_drew1 | refine below_set ?_ GE156.out) | exact HB.out)⟩⟩
                · rw [if_neg c70] at H
                  have c70b0 : (a0_0 == 3) = false := beq_eq_false_iff_ne.mpr c70
                  have c70b1 : (a0_0 != 3) = true := bne_iff_ne.mpr c70
                  have H' := Aside0.mk H
                  clear H
                  have hcz72_0 : w3.cell? ⟨gb156, 0, none⟩ = some (.int .i64 a0_0) := (blk_cell BK156.out 0).trans rfl
                  have hcz72_1 : w3.cell? ⟨gb156, 1, none⟩ = some (.int .i64 a0_1) := (blk_cell BK156.out 1).trans rfl
                  have hcz72_2 : w3.cell? ⟨gb156, 2, none⟩ = some (.string a0_2) := (blk_cell BK156.out 2).trans rfl
                  have hfz72_0 := blk_frozen BK156.out 0
                  have hfz72_1 := blk_frozen BK156.out 1
                  have hfz72_2 := blk_frozen BK156.out 2
                  go_wp2
                  go_meet
                  case rel => exact ⟨_, (false), (by first | rfl | (simp; done) | (simp [*]; done)), H', ⟨by first | omega | exact Nat.le_refl _⟩, ⟨by (with_reducible repeat (first | refine blk_drewN ?_ _ | refine blk_drew ?_ | refine blk_alloc ?_ _)); exact BK156.out⟩, ⟨by repeat (first | (with_reducible first | exact HB.out | apply below_alloc | apply pw_below_drewN | apply below_drew1 | refine below_set ?_ GE156.out) | exact HB.out)⟩⟩
          · rw [if_neg c63] at H
            have c63b0 : (a0_1 == 1) = false := beq_eq_false_iff_ne.mpr c63
            have c63b1 : (a0_1 != 1) = true := bne_iff_ne.mpr c63
            by_cases c73 : a0_0 = 2
            · rw [if_pos c73] at H
              have c73b0 : (a0_0 == 2) = true := beq_iff_eq.mpr c73
              have c73b1 : (a0_0 != 2) = false := bne_eq_false_iff_eq.mpr c73
              clear c73
              by_cases c74 : a0_2.toList = ([] : List UInt8)
              · rw [if_pos c74] at H
                have c74b0 : (a0_2.toList == ([] : List UInt8)) = true := beq_iff_eq.mpr c74
                have c74b1 : (a0_2.toList != ([] : List UInt8)) = false := bne_eq_false_iff_eq.mpr c74
                clear c74
                have H' := Aside0.mk H
                clear H
                have hcz75_0 : w3.cell? ⟨gb156, 0, none⟩ = some (.int .i64 a0_0) := (blk_cell BK156.out 0).trans rfl
                have hcz75_1 : w3.cell? ⟨gb156, 1, none⟩ = some (.int .i64 a0_1) := (blk_cell BK156.out 1).trans rfl
                have hcz75_2 : w3.cell? ⟨gb156, 2, none⟩ = some (.string a0_2) := (blk_cell BK156.out 2).trans rfl
                have hfz75_0 := blk_frozen BK156.out 0
                have hfz75_1 := blk_frozen BK156.out 1
                have hfz75_2 := blk_frozen BK156.out 2
                go_wp2
                go_meet
                case rel => exact ⟨_, (true), (by first | rfl | (simp; done) | (simp [*]; done)), H', ⟨by first | omega | exact Nat.le_refl _⟩, ⟨by (with_reducible repeat (first | refine blk_drewN ?_ _ | refine blk_drew ?_ | refine blk_alloc ?_ _)); exact BK156.out⟩, ⟨by repeat (first | (with_reducible first | exact HB.out | apply below_alloc | apply pw_below_drewN | apply below_drew1 | refine below_set ?_ GE156.out) | exact HB.out)⟩⟩
              · rw [if_neg c74] at H
                have c74b0 : (a0_2.toList == ([] : List UInt8)) = false := beq_eq_false_iff_ne.mpr c74
                have c74b1 : (a0_2.toList != ([] : List UInt8)) = true := bne_iff_ne.mpr c74
                by_cases c76 : a0_0 = 3
                · rw [if_pos c76] at H
                  have c76b0 : (a0_0 == 3) = true := beq_iff_eq.mpr c76
                  have c76b1 : (a0_0 != 3) = false := bne_eq_false_iff_eq.mpr c76
                  clear c76
                  have H' := Aside0.mk H
                  clear H
                  have hcz77_0 : w3.cell? ⟨gb156, 0, none⟩ = some (.int .i64 a0_0) := (blk_cell BK156.out 0).trans rfl
                  have hcz77_1 : w3.cell? ⟨gb156, 1, none⟩ = some (.int .i64 a0_1) := (blk_cell BK156.out 1).trans rfl
                  have hcz77_2 : w3.cell? ⟨gb156, 2, none⟩ = some (.string a0_2) := (blk_cell BK156.out 2).trans rfl
                  have hfz77_0 := blk_frozen BK156.out 0
                  have hfz77_1 := blk_frozen BK156.out 1
                  have hfz77_2 := blk_frozen BK156.out 2
                  go_wp2
                  go_meet
                  case rel => exact ⟨_, ((a0_1 == 0)), (by first | rfl | (simp; done) | (simp [*]; done)), H', ⟨by first | omega | exact Nat.le_refl _⟩, ⟨by (with_reducible repeat (first | refine blk_drewN ?_ _ | refine blk_drew ?_ | refine blk_alloc ?_ _)); exact BK156.out⟩, ⟨by repeat (first | (with_reducible first | exact HB.out | apply below_alloc | apply pw_below_drewN | apply below_drew1 | refine below_set ?_ GE156.out) | exact HB.out)⟩⟩
                · rw [if_neg c76] at H
                  have c76b0 : (a0_0 == 3) = false := beq_eq_false_iff_ne.mpr c76
                  have c76b1 : (a0_0 != 3) = true := bne_iff_ne.mpr c76
                  have H' := Aside0.mk H
                  clear H
                  have hcz78_0 : w3.cell? ⟨gb156, 0, none⟩ = some (.int .i64 a0_0) := (blk_cell BK156.out 0).trans rfl
                  have hcz78_1 : w3.cell? ⟨gb156, 1, none⟩ = some (.int .i64 a0_1) := (blk_cell BK156.out 1).trans rfl
                  have hcz78_2 : w3.cell? ⟨gb156, 2, none⟩ = some (.string a0_2) := (blk_cell BK156.out 2).trans rfl
                  have hfz78_0 := blk_frozen BK156.out 0
                  have hfz78_1 := blk_frozen BK156.out 1
                  have hfz78_2 := blk_frozen BK156.out 2
                  go_wp2
                  go_meet
                  case rel => exact ⟨_, (false), (by first | rfl | (simp; done) | (simp [*]; done)), H', ⟨by first | omega | exact Nat.le_refl _⟩, ⟨by (with_reducible repeat (first | refine blk_drewN ?_ _ | refine blk_drew ?_ | refine blk_alloc ?_ _)); exact BK156.out⟩, ⟨by repeat (first | (with_reducible first | exact HB.out | apply below_alloc | apply pw_below_drewN | apply below_drew1 | refine below_set ?_ GE156.out) | exact HB.out)⟩⟩
            · rw [if_neg c73] at H
              have c73b0 : (a0_0 == 2) = false := beq_eq_false_iff_ne.mpr c73
              have c73b1 : (a0_0 != 2) = true := bne_iff_ne.mpr c73
              by_cases c79 : a0_0 = 3
              · rw [if_pos c79] at H
                have c79b0 : (a0_0 == 3) = true := beq_iff_eq.mpr c79
                have c79b1 : (a0_0 != 3) = false := bne_eq_false_iff_eq.mpr c79
                clear c79
                have H' := Aside0.mk H
                clear H
                have hcz80_0 : w3.cell? ⟨gb156, 0, none⟩ = some (.int .i64 a0_0) := (blk_cell BK156.out 0).trans rfl
                have hcz80_1 : w3.cell? ⟨gb156, 1, none⟩ = some (.int .i64 a0_1) := (blk_cell BK156.out 1).trans rfl
                have hcz80_2 : w3.cell? ⟨gb156, 2, none⟩ = some (.string a0_2) := (blk_cell BK156.out 2).trans rfl
                have hfz80_0 := blk_frozen BK156.out 0
                have hfz80_1 := blk_frozen BK156.out 1
                have hfz80_2 := blk_frozen BK156.out 2
                go_wp2
                go_meet
                case rel => exact ⟨_, ((a0_1 == 0)), (by first | rfl | (simp; done) | (simp [*]; done)), H', ⟨by first | omega | exact Nat.le_refl _⟩, ⟨by (with_reducible repeat (first | refine blk_drewN ?_ _ | refine blk_drew ?_ | refine blk_alloc ?_ _)); exact BK156.out⟩, ⟨by repeat (first | (with_reducible first | exact HB.out | apply below_alloc | apply pw_below_drewN | apply below_drew1 | refine below_set ?_ GE156.out) | exact HB.out)⟩⟩
              · rw [if_neg c79] at H
                have c79b0 : (a0_0 == 3) = false := beq_eq_false_iff_ne.mpr c79
                have c79b1 : (a0_0 != 3) = true := bne_iff_ne.mpr c79
                have H' := Aside0.mk H
                clear H
                have hcz81_0 : w3.cell? ⟨gb156, 0, none⟩ = some (.int .i64 a0_0) := (blk_cell BK156.out 0).trans rfl
                have hcz81_1 : w3.cell? ⟨gb156, 1, none⟩ = some (.int .i64 a0_1) := (blk_cell BK156.out 1).trans rfl
                have hcz81_2 : w3.cell? ⟨gb156, 2, none⟩ = some (.string a0_2) := (blk_cell BK156.out 2).trans rfl
                have hfz81_0 := blk_frozen BK156.out 0
                have hfz81_1 := blk_frozen BK156.out 1
                have hfz81_2 := blk_frozen BK156.out 2
                go_wp2
                go_meet
                case rel => exact ⟨_, (false), (by first | rfl | (simp; done) | (simp [*]; done)), H', ⟨by first | omega | exact Nat.le_refl _⟩, ⟨by (with_reducible repeat (first | refine blk_drewN ?_ _ | refine blk_drew ?_ | refine blk_alloc ?_ _)); exact BK156.out⟩, ⟨by repeat (first | (with_reducible first | exact HB.out | apply below_alloc | apply pw_below_drewN | apply below_drew1 | refine below_set ?_ GE156.out) | exact HB.out)⟩⟩
      · rw [if_neg c52] at H
        have c52b0 : (a0_0 == 1) = false := beq_eq_false_iff_ne.mpr c52
        have c52b1 : (a0_0 != 1) = true := bne_iff_ne.mpr c52
        by_cases c82 : a0_0 = 2
        · rw [if_pos c82] at H
          have c82b0 : (a0_0 == 2) = true := beq_iff_eq.mpr c82
          have c82b1 : (a0_0 != 2) = false := bne_eq_false_iff_eq.mpr c82
          clear c82
          by_cases c83 : a0_2.toList = ([] : List UInt8)
          · rw [if_pos c83] at H
            have c83b0 : (a0_2.toList == ([] : List UInt8)) = true := beq_iff_eq.mpr c83
            have c83b1 : (a0_2.toList != ([] : List UInt8)) = false := bne_eq_false_iff_eq.mpr c83
            clear c83
            have H' := Aside0.mk H
            clear H
            have hcz84_0 : w3.cell? ⟨gb156, 0, none⟩ = some (.int .i64 a0_0) := (blk_cell BK156.out 0).trans rfl
            have hcz84_1 : w3.cell? ⟨gb156, 1, none⟩ = some (.int .i64 a0_1) := (blk_cell BK156.out 1).trans rfl
            have hcz84_2 : w3.cell? ⟨gb156, 2, none⟩ = some (.string a0_2) := (blk_cell BK156.out 2).trans rfl
            have hfz84_0 := blk_frozen BK156.out 0
            have hfz84_1 := blk_frozen BK156.out 1
            have hfz84_2 := blk_frozen BK156.out 2
            go_wp2
            go_meet
            case rel => exact ⟨_, (true), (by first | rfl | (simp; done) | (simp [*]; done)), H', ⟨by first | omega | exact Nat.le_refl _⟩, ⟨by (with_reducible repeat (first | refine blk_drewN ?_ _ | refine blk_drew ?_ | refine blk_alloc ?_ _)); exact BK156.out⟩, ⟨by repeat (first | (with_reducible first | exact HB.out | apply below_alloc | apply pw_below_drewN | apply below_drew1 | refine below_set ?_ GE156.out) | exact HB.out)⟩⟩
          · rw [if_neg c83] at H
            have c83b0 : (a0_2.toList == ([] : List UInt8)) = false := beq_eq_false_iff_ne.mpr c83
            have c83b1 : (a0_2.toList != ([] : List UInt8)) = true := bne_iff_ne.mpr c83
            by_cases c85 : a0_0 = 3
            · rw [if_pos c85] at H
              have c85b0 : (a0_0 == 3) = true := beq_iff_eq.mpr c85
              have c85b1 : (a0_0 != 3) = false := bne_eq_false_iff_eq.mpr c85
              clear c85
              have H' := Aside0.mk H
              clear H
              have hcz86_0 : w3.cell? ⟨gb156, 0, none⟩ = some (.int .i64 a0_0) := (blk_cell BK156.out 0).trans rfl
              have hcz86_1 : w3.cell? ⟨gb156, 1, none⟩ = some (.int .i64 a0_1) := (blk_cell BK156.out 1).trans rfl
              have hcz86_2 : w3.cell? ⟨gb156, 2, none⟩ = some (.string a0_2) := (blk_cell BK156.out 2).trans rfl
              have hfz86_0 := blk_frozen BK156.out 0
              have hfz86_1 := blk_frozen BK156.out 1
              have hfz86_2 := blk_frozen BK156.out 2
              go_wp2
              go_meet
              case rel => exact ⟨_, ((a0_1 == 0)), (by first | rfl | (simp; done) | (simp [*]; done)), H', ⟨by first | omega | exact Nat.le_refl _⟩, ⟨by (with_reducible repeat (first | refine blk_drewN ?_ _ | refine blk_drew ?_ | refine blk_alloc ?_ _)); exact BK156.out⟩, ⟨by repeat (first | (with_reducible first | exact HB.out | apply below_alloc | apply pw_below_drewN | apply below_drew1 | refine below_set ?_ GE156.out) | exact HB.out)⟩⟩
            · rw [if_neg c85] at H
              have c85b0 : (a0_0 == 3) = false := beq_eq_false_iff_ne.mpr c85
              have c85b1 : (a0_0 != 3) = true := bne_iff_ne.mpr c85
              have H' := Aside0.mk H
              clear H
              have hcz87_0 : w3.cell? ⟨gb156, 0, none⟩ = some (.int .i64 a0_0) := (blk_cell BK156.out 0).trans rfl
              have hcz87_1 : w3.cell? ⟨gb156, 1, none⟩ = some (.int .i64 a0_1) := (blk_cell BK156.out 1).trans rfl
              have hcz87_2 : w3.cell? ⟨gb156, 2, none⟩ = some (.string a0_2) := (blk_cell BK156.out 2).trans rfl
              have hfz87_0 := blk_frozen BK156.out 0
              have hfz87_1 := blk_frozen BK156.out 1
              have hfz87_2 := blk_frozen BK156.out 2
              go_wp2
              go_meet
              case rel => exact ⟨_, (false), (by first | rfl | (simp; done) | (simp [*]; done)), H', ⟨by first | omega | exact Nat.le_refl _⟩, ⟨by (with_reducible repeat (first | refine blk_drewN ?_ _ | refine blk_drew ?_ | refine blk_alloc ?_ _)); exact BK156.out⟩, ⟨by repeat (first | (with_reducible first | exact HB.out | apply below_alloc | apply pw_below_drewN | apply below_drew1 | refine below_set ?_ GE156.out) | exact HB.out)⟩⟩
        · rw [if_neg c82] at H
          have c82b0 : (a0_0 == 2) = false := beq_eq_false_iff_ne.mpr c82
          have c82b1 : (a0_0 != 2) = true := bne_iff_ne.mpr c82
          by_cases c88 : a0_0 = 3
          · rw [if_pos c88] at H
            have c88b0 : (a0_0 == 3) = true := beq_iff_eq.mpr c88
            have c88b1 : (a0_0 != 3) = false := bne_eq_false_iff_eq.mpr c88
            clear c88
            have H' := Aside0.mk H
            clear H
            have hcz89_0 : w3.cell? ⟨gb156, 0, none⟩ = some (.int .i64 a0_0) := (blk_cell BK156.out 0).trans rfl
            have hcz89_1 : w3.cell? ⟨gb156, 1, none⟩ = some (.int .i64 a0_1) := (blk_cell BK156.out 1).trans rfl
            have hcz89_2 : w3.cell? ⟨gb156, 2, none⟩ = some (.string a0_2) := (blk_cell BK156.out 2).trans rfl
            have hfz89_0 := blk_frozen BK156.out 0
            have hfz89_1 := blk_frozen BK156.out 1
            have hfz89_2 := blk_frozen BK156.out 2
            go_wp2
            go_meet
            case rel => exact ⟨_, ((a0_1 == 0)), (by first | rfl | (simp; done) | (simp [*]; done)), H', ⟨by first | omega | exact Nat.le_refl _⟩, ⟨by (with_reducible repeat (first | refine blk_drewN ?_ _ | refine blk_drew ?_ | refine blk_alloc ?_ _)); exact BK156.out⟩, ⟨by repeat (first | (with_reducible first | exact HB.out | apply below_alloc | apply pw_below_drewN | apply below_drew1 | refine below_set ?_ GE156.out) | exact HB.out)⟩⟩
          · rw [if_neg c88] at H
            have c88b0 : (a0_0 == 3) = false := beq_eq_false_iff_ne.mpr c88
            have c88b1 : (a0_0 != 3) = true := bne_iff_ne.mpr c88
            have H' := Aside0.mk H
            clear H
            have hcz90_0 : w3.cell? ⟨gb156, 0, none⟩ = some (.int .i64 a0_0) := (blk_cell BK156.out 0).trans rfl
            have hcz90_1 : w3.cell? ⟨gb156, 1, none⟩ = some (.int .i64 a0_1) := (blk_cell BK156.out 1).trans rfl
            have hcz90_2 : w3.cell? ⟨gb156, 2, none⟩ = some (.string a0_2) := (blk_cell BK156.out 2).trans rfl
            have hfz90_0 := blk_frozen BK156.out 0
            have hfz90_1 := blk_frozen BK156.out 1
            have hfz90_2 := blk_frozen BK156.out 2
            go_wp2
            go_meet
            case rel => exact ⟨_, (false), (by first | rfl | (simp; done) | (simp [*]; done)), H', ⟨by first | omega | exact Nat.le_refl _⟩, ⟨by (with_reducible repeat (first | refine blk_drewN ?_ _ | refine blk_drew ?_ | refine blk_alloc ?_ _)); exact BK156.out⟩, ⟨by repeat (first | (with_reducible first | exact HB.out | apply below_alloc | apply pw_below_drewN | apply below_drew1 | refine below_set ?_ GE156.out) | exact HB.out)⟩⟩
  case rest =>
    clear HC2
    try clear c2
    try clear p2
    try clear c3
    try clear c4
    try clear c4b0
    try clear c4b1
    try clear c5
    try clear c6
    try clear c7
    try clear c8
    try clear c23
    try clear c23b0
    try clear c23b1
    try clear c24
    try clear c24b0
    try clear c24b1
    try clear c27
    try clear c27b0
    try clear c27b1
    try clear c31
    try clear c31b0
    try clear c31b1
    try clear c34
    try clear c34b0
    try clear c34b1
    try clear c35
    try clear c35b0
    try clear c35b1
    try clear c37
    try clear c37b0
    try clear c37b1
    try clear c40
    try clear c40b0
    try clear c40b1
    try clear c43
    try clear c43b0
    try clear c43b1
    try clear c44
    try clear c44b0
    try clear c44b1
    try clear c46
    try clear c46b0
    try clear c46b1
    try clear c49
    try clear c49b0
    try clear c49b1
    try clear c52
    try clear c52b0
    try clear c52b1
    try clear c53
    try clear c53b0
    try clear c53b1
    try clear c54
    try clear c54b0
    try clear c54b1
    try clear c56
    try clear c56b0
    try clear c56b1
    try clear c57
    try clear c57b0
    try clear c57b1
    try clear c60
    try clear c60b0
    try clear c60b1
    try clear c63
    try clear c63b0
    try clear c63b1
    try clear c64
    try clear c64b0
    try clear c64b1
    try clear c66
    try clear c66b0
    try clear c66b1
    try clear c67
    try clear c67b0
    try clear c67b1
    try clear c70
    try clear c70b0
    try clear c70b1
    try clear c73
    try clear c73b0
    try clear c73b1
    try clear c74
    try clear c74b0
    try clear c74b1
    try clear c76
    try clear c76b0
    try clear c76b1
    try clear c79
    try clear c79b0
    try clear c79b1
    try clear c82
    try clear c82b0
    try clear c82b1
    try clear c83
    try clear c83b0
    try clear c83b1
    try clear c85
    try clear c85b0
    try clear c85b1
    try clear c88
    try clear c88b0
    try clear c88b1
    try clear hcz30_0
    try clear hcz30_1
    try clear hcz30_2
    try clear hcz32_0
    try clear hcz32_1
    try clear hcz32_2
    try clear hcz33_0
    try clear hcz33_1
    try clear hcz33_2
    try clear hcz36_0
    try clear hcz36_1
    try clear hcz36_2
    try clear hcz38_0
    try clear hcz38_1
    try clear hcz38_2
    try clear hcz39_0
    try clear hcz39_1
    try clear hcz39_2
    try clear hcz41_0
    try clear hcz41_1
    try clear hcz41_2
    try clear hcz42_0
    try clear hcz42_1
    try clear hcz42_2
    try clear hcz45_0
    try clear hcz45_1
    try clear hcz45_2
    try clear hcz47_0
    try clear hcz47_1
    try clear hcz47_2
    try clear hcz48_0
    try clear hcz48_1
    try clear hcz48_2
    try clear hcz50_0
    try clear hcz50_1
    try clear hcz50_2
    try clear hcz51_0
    try clear hcz51_1
    try clear hcz51_2
    try clear hcz55_0
    try clear hcz55_1
    try clear hcz55_2
    try clear hcz58_0
    try clear hcz58_1
    try clear hcz58_2
    try clear hcz59_0
    try clear hcz59_1
    try clear hcz59_2
    try clear hcz61_0
    try clear hcz61_1
    try clear hcz61_2
    try clear hcz62_0
    try clear hcz62_1
    try clear hcz62_2
    try clear hcz65_0
    try clear hcz65_1
    try clear hcz65_2
    try clear hcz68_0
    try clear hcz68_1
    try clear hcz68_2
    try clear hcz69_0
    try clear hcz69_1
    try clear hcz69_2
    try clear hcz71_0
    try clear hcz71_1
    try clear hcz71_2
    try clear hcz72_0
    try clear hcz72_1
    try clear hcz72_2
    try clear hcz75_0
    try clear hcz75_1
    try clear hcz75_2
    try clear hcz77_0
    try clear hcz77_1
    try clear hcz77_2
    try clear hcz78_0
    try clear hcz78_1
    try clear hcz78_2
    try clear hcz80_0
    try clear hcz80_1
    try clear hcz80_2
    try clear hcz81_0
    try clear hcz81_1
    try clear hcz81_2
    try clear hcz84_0
    try clear hcz84_1
    try clear hcz84_2
    try clear hcz86_0
    try clear hcz86_1
    try clear hcz86_2
    try clear hcz87_0
    try clear hcz87_1
    try clear hcz87_2
    try clear hcz89_0
    try clear hcz89_1
    try clear hcz89_2
    try clear hcz90_0
    try clear hcz90_1
    try clear hcz90_2
    try clear hfz30_0
    try clear hfz30_1
    try clear hfz30_2
    try clear hfz32_0
    try clear hfz32_1
    try clear hfz32_2
    try clear hfz33_0
    try clear hfz33_1
    try clear hfz33_2
    try clear hfz36_0
    try clear hfz36_1
    try clear hfz36_2
    try clear hfz38_0
    try clear hfz38_1
    try clear hfz38_2
    try clear hfz39_0
    try clear hfz39_1
    try clear hfz39_2
    try clear hfz41_0
    try clear hfz41_1
    try clear hfz41_2
    try clear hfz42_0
    try clear hfz42_1
    try clear hfz42_2
    try clear hfz45_0
    try clear hfz45_1
    try clear hfz45_2
    try clear hfz47_0
    try clear hfz47_1
    try clear hfz47_2
    try clear hfz48_0
    try clear hfz48_1
    try clear hfz48_2
    try clear hfz50_0
    try clear hfz50_1
    try clear hfz50_2
    try clear hfz51_0
    try clear hfz51_1
    try clear hfz51_2
    try clear hfz55_0
    try clear hfz55_1
    try clear hfz55_2
    try clear hfz58_0
    try clear hfz58_1
    try clear hfz58_2
    try clear hfz59_0
    try clear hfz59_1
    try clear hfz59_2
    try clear hfz61_0
    try clear hfz61_1
    try clear hfz61_2
    try clear hfz62_0
    try clear hfz62_1
    try clear hfz62_2
    try clear hfz65_0
    try clear hfz65_1
    try clear hfz65_2
    try clear hfz68_0
    try clear hfz68_1
    try clear hfz68_2
    try clear hfz69_0
    try clear hfz69_1
    try clear hfz69_2
    try clear hfz71_0
    try clear hfz71_1
    try clear hfz71_2
    try clear hfz72_0
    try clear hfz72_1
    try clear hfz72_2
    try clear hfz75_0
    try clear hfz75_1
    try clear hfz75_2
    try clear hfz77_0
    try clear hfz77_1
    try clear hfz77_2
    try clear hfz78_0
    try clear hfz78_1
    try clear hfz78_2
    try clear hfz80_0
    try clear hfz80_1
    try clear hfz80_2
    try clear hfz81_0
    try clear hfz81_1
    try clear hfz81_2
    try clear hfz84_0
    try clear hfz84_1
    try clear hfz84_2
    try clear hfz86_0
    try clear hfz86_1
    try clear hfz86_2
    try clear hfz87_0
    try clear hfz87_1
    try clear hfz87_2
    try clear hfz89_0
    try clear hfz89_1
    try clear hfz89_2
    try clear hfz90_0
    try clear hfz90_1
    try clear hfz90_2
    obtain ⟨kq, x3_1, rfl, HA, HJ1, BK156, HB⟩ := hcut
    cases kq with
    | zero => exact absurd HA.out (by simp [cordonref01_Right.j0])
    | succ kj1 =>
      have H := HA.out
      clear HA
      simp only [cordonref01_Right.j0] at H
      by_cases c91 : x3_1 = true
      · subst c91
        have H1 : (if a0_0 = 3 then (if (a0_2.size : Int) > 1000 then (some 8) else (some 0)) else (some 0)) = some r := by rw [if_pos rfl] at H; exact H
        clear H
        have H := H1
        clear H1
        by_cases c92 : a0_0 = 3
        · rw [if_pos c92] at H
          have c92b0 : (a0_0 == 3) = true := beq_iff_eq.mpr c92
          have c92b1 : (a0_0 != 3) = false := bne_eq_false_iff_eq.mpr c92
          clear c92
          by_cases c93 : (a0_2.size : Int) > 1000
          · rw [if_pos c93] at H
            have c93b0 : decide (1000 < (a0_2.size : Int)) = true := decide_eq_true c93
            have c93b1 : decide (1000 < a0_2.size) = true := decide_eq_true (by omega)
            clear c93
            obtain rfl := Option.some.inj H
            have hcz94_0 : wc.cell? ⟨gb156, 0, none⟩ = some (.int .i64 a0_0) := (blk_cell BK156.out 0).trans rfl
            have hcz94_1 : wc.cell? ⟨gb156, 1, none⟩ = some (.int .i64 a0_1) := (blk_cell BK156.out 1).trans rfl
            have hcz94_2 : wc.cell? ⟨gb156, 2, none⟩ = some (.string a0_2) := (blk_cell BK156.out 2).trans rfl
            have hfz94_0 := blk_frozen BK156.out 0
            have hfz94_1 := blk_frozen BK156.out 1
            have hfz94_2 := blk_frozen BK156.out 2
            go_wp2
            go_ret
            exact ⟨by first | rfl | (simp [errW_none, errW_some] <;> rfl) | (simp [*, errW_none, errW_some] <;> rfl), by repeat (first | (with_reducible first | exact HB.out | apply below_alloc | apply pw_below_drewN | apply below_drew1 | refine below_set ?_ GE156.out) | exact HB.out)⟩
          · rw [if_neg c93] at H
            have c93b0 : decide (1000 < (a0_2.size : Int)) = false := decide_eq_false c93
            have c93b1 : decide (1000 < a0_2.size) = false := decide_eq_false (by omega)
            clear c93
            obtain rfl := Option.some.inj H
            have hcz95_0 : wc.cell? ⟨gb156, 0, none⟩ = some (.int .i64 a0_0) := (blk_cell BK156.out 0).trans rfl
            have hcz95_1 : wc.cell? ⟨gb156, 1, none⟩ = some (.int .i64 a0_1) := (blk_cell BK156.out 1).trans rfl
            have hcz95_2 : wc.cell? ⟨gb156, 2, none⟩ = some (.string a0_2) := (blk_cell BK156.out 2).trans rfl
            have hfz95_0 := blk_frozen BK156.out 0
            have hfz95_1 := blk_frozen BK156.out 1
            have hfz95_2 := blk_frozen BK156.out 2
            go_wp2
            go_ret
            exact ⟨by first | rfl | (simp [errW_none, errW_some] <;> rfl) | (simp [*, errW_none, errW_some] <;> rfl), by repeat (first | (with_reducible first | exact HB.out | apply below_alloc | apply pw_below_drewN | apply below_drew1 | refine below_set ?_ GE156.out) | exact HB.out)⟩
        · rw [if_neg c92] at H
          have c92b0 : (a0_0 == 3) = false := beq_eq_false_iff_ne.mpr c92
          have c92b1 : (a0_0 != 3) = true := bne_iff_ne.mpr c92
          obtain rfl := Option.some.inj H
          have hcz96_0 : wc.cell? ⟨gb156, 0, none⟩ = some (.int .i64 a0_0) := (blk_cell BK156.out 0).trans rfl
          have hcz96_1 : wc.cell? ⟨gb156, 1, none⟩ = some (.int .i64 a0_1) := (blk_cell BK156.out 1).trans rfl
          have hcz96_2 : wc.cell? ⟨gb156, 2, none⟩ = some (.string a0_2) := (blk_cell BK156.out 2).trans rfl
          have hfz96_0 := blk_frozen BK156.out 0
          have hfz96_1 := blk_frozen BK156.out 1
          have hfz96_2 := blk_frozen BK156.out 2
          go_wp2
          go_ret
          exact ⟨by first | rfl | (simp [errW_none, errW_some] <;> rfl) | (simp [*, errW_none, errW_some] <;> rfl), by repeat (first | (with_reducible first | exact HB.out | apply below_alloc | apply pw_below_drewN | apply below_drew1 | refine below_set ?_ GE156.out) | exact HB.out)⟩
      · replace c91 := Bool.eq_false_iff.mpr c91
        subst c91
        have H1 : (some 2) = some r := by rw [if_neg (show ¬ (false = true) by decide)] at H; exact H
        clear H
        have H := H1
        clear H1
        obtain rfl := Option.some.inj H
        go_wp2
        go_ret
        exact ⟨by first | rfl | (simp [errW_none, errW_some] <;> rfl) | (simp [*, errW_none, errW_some] <;> rfl), by repeat (first | (with_reducible first | exact HB.out | apply below_alloc | apply pw_below_drewN | apply below_drew1 | refine below_set ?_ GE156.out) | exact HB.out)⟩
end Go.Proofs.Ythghflgmeepnlaa.Pa
end
section
namespace Go.Proofs.Ythghflgmeepnlaa.Pa
open Go.RowKit Go.Proofs.YthghflgmeepnlaaW.PrintWords Go.Proofs.YthghflgmeepnlaaW.PrintLast Go.Proofs.YthghflgmeepnlaaW.PrintMore
attribute [local go_sem] max2_int max_two
set_option linter.unusedVariables false
set_option linter.unusedSimpArgs false
end Go.Proofs.Ythghflgmeepnlaa.Pa
end
section
namespace Go.Proofs.Ythghflgmeepnlaa.Pa
open Go.RowKit Go.Proofs.YthghflgmeepnlaaW.PrintWords Go.Proofs.YthghflgmeepnlaaW.PrintLast Go.Proofs.YthghflgmeepnlaaW.PrintMore
set_option linter.unusedVariables false
set_option linter.unusedSimpArgs false
/-- What can be read of type t is of kind d, and good. -/
def Opens {H : Type} (enc : TypeId × Value → H) (w : World) (t : TypeId) {α : Type} (d : Kd α) (good : α → Prop) : Prop :=
  ∀ (fuel : Nat) (cs : List Value) (x : DataW H × List MemPlace), DataW.trod enc Try.prog w 0 (fun _ => true) true fuel t cs = some x → ∃ v, d.K w v cs ∧ good v
section
variable {H : Type} {enc : TypeId × Value → H} {w : World}
/-- A value as it may come in. -/
def okv (x : S33) : Prop := (Lit.int .i64 x.f0).wf = true ∧ (Lit.int .i64 x.f1).wf = true ∧ x.f2.size ≤ maxLen
set_option maxRecDepth 10000 in
theorem opens_33 : Opens enc w 33 k33 okv := by
  intro fuel cs x h
  obtain ⟨y0, y1, y2, n, _, hl, h0, h1, h2⟩ := Go.Deep.trod_struct3 Try.underlying33 h
  have hc : Try.prog.cellsOf 33 = 3 := by kernel_rfl
  have hc3 : Try.prog.cellsOf 3 = 1 := by kernel_rfl
  have hc9 : Try.prog.cellsOf 9 = 1 := by kernel_rfl
  rw [hc] at hl
  match cs, hl with
  | [c0, c1, c2], _ =>
    simp only [hc3, hc9, List.drop_zero, List.drop_succ_cons, List.take_succ_cons, List.take_zero] at h0 h1 h2
    obtain ⟨n0, e0, _, w0⟩ := DataW.trod_int Try.underlying3 h0
    obtain ⟨n1, e1, _, w1⟩ := DataW.trod_int Try.underlying3 h1
    obtain ⟨s2, e2, _, w2⟩ := DataW.trod_string Try.underlying9 h2
    simp only [List.cons.injEq, and_true] at e0 e1 e2
    subst e0 e1 e2
    exact ⟨⟨n0, n1, s2⟩, k33_mk w ⟨n0, n1, s2⟩, w0, w1, w2⟩
theorem opens_slice {t e : TypeId} {α : Type} {d : Kd α} {good : α → Prop} (ht : Try.prog.underlying t = some (.slice e)) (hs : Try.prog.cellsOf e = d.sz) (hz : 0 < d.sz) (he : Opens enc w e d good) :
    Opens enc w t (Kd.slice e d) (fun xs => xs.length ≤ maxLen ∧ ∀ x ∈ xs, good x) := by
  intro fuel cs x h
  rcases Go.Deep.open_slice ht h with ⟨rfl, _⟩ | ⟨a, len, cap, m, n, D, Pl, rfl, _, hl, hm, hmm, _, hi⟩
  · exact ⟨[], ⟨none, 0, rfl, Nat.le_refl _, rfl, by simp, fun h => absurd h (by simp)⟩, by simp, by simp⟩
  · have hlm : len ≤ m := by simp at hmm; omega
    have key : ∀ i : Nat, ∃ v : Option α, i < len → ∃ y cs', v = some y ∧ w.cells? 0 (a.add (i * d.sz)) d.sz = some cs' ∧ d.K w y cs' ∧ good y := by
      intro i
      by_cases hil : i < len
      · obtain ⟨cs', h1, h2⟩ := hi i (by omega)
        obtain ⟨y, hk, hg⟩ := he n cs' _ h2
        rw [hs] at h1
        exact ⟨some y, fun _ => ⟨y, cs', rfl, h1, hk, hg⟩⟩
      · exact ⟨none, fun h => absurd h hil⟩
    have key2 : ∃ xs : List α, xs.length = len ∧ ∀ i y, xs[i]? = some y → ∃ cs', w.cells? 0 (a.add (i * d.sz)) d.sz = some cs' ∧ d.K w y cs' ∧ good y := by
      have : ∀ k, k ≤ len → ∃ xs : List α, xs.length = k ∧ ∀ i y, xs[i]? = some y → ∃ cs', w.cells? 0 (a.add (i * d.sz)) d.sz = some cs' ∧ d.K w y cs' ∧ good y := by
        intro k
        induction k with
        | zero => exact fun _ => ⟨[], rfl, by simp⟩
        | succ k ih =>
          intro hk
          obtain ⟨xs, hx, hp⟩ := ih (by omega)
          obtain ⟨v, hv⟩ := key k
          obtain ⟨y, cs', _, h1, h2, h3⟩ := hv (by omega)
          refine ⟨xs ++ [y], by simp [hx], fun i z hz => ?_⟩
          by_cases hik : i < k
          · rw [List.getElem?_append_left (by omega)] at hz
            exact hp i z hz
          · rw [List.getElem?_append_right (by omega)] at hz
            have : i = k := by
              rcases Nat.eq_zero_or_pos (i - xs.length) with h0 | h0
              · omega
              · rw [List.getElem?_eq_none (by simp; omega)] at hz
                cases hz
            subst this
            rw [hx] at hz
            simp at hz
            subst hz
            exact ⟨cs', h1, h2, h3⟩
      exact this len (Nat.le_refl _)
    obtain ⟨xs, hx, hp⟩ := key2
    refine ⟨xs, ⟨some a, cap, by rw [hx], by omega, rfl, by rw [hx]; unfold maxLen at hm; omega, fun _ => ⟨a, rfl, fun j p hj => ?_⟩⟩, by rw [hx]; exact Nat.le_trans hl hm, fun y hy => ?_⟩
    · obtain ⟨cs', h1, h2, _⟩ := hp j p hj
      refine ⟨cs', d.K_len h2, h2, fun i u hu => ?_⟩
      obtain ⟨_, h4, h5⟩ := World.cells?_some h1
      have hlt : i < d.sz := by
        rcases Nat.lt_or_ge i d.sz with h | h
        · exact h
        · rw [List.getElem?_eq_none (by omega)] at hu
          cases hu
      rw [← hu, ← h5 i hlt, Go.Deep.add_add]
    · obtain ⟨i, hi⟩ := List.getElem?_of_mem hy
      obtain ⟨_, _, _, hg⟩ := hp i y hi
      exact hg
end
end Go.Proofs.Ythghflgmeepnlaa.Pa
end
section
namespace Go.Proofs.Ythghflgmeepnlaa.Pa
open Go.RowKit Go.Proofs.YthghflgmeepnlaaW.PrintWords Go.Proofs.YthghflgmeepnlaaW.PrintLast Go.Proofs.YthghflgmeepnlaaW.PrintMore
set_option linter.unusedVariables false
set_option linter.unusedSimpArgs false
theorem xor_low (b : Nat) (h : b < 9223372036854775808) : b ^^^ 9223372036854775808 = 9223372036854775808 + b := by
  have e : (9223372036854775808 : Nat) = 2 ^ 63 := by decide
  rw [e] at h ⊢
  apply Nat.eq_of_testBit_eq
  intro i
  rw [Nat.testBit_xor, Nat.testBit_two_pow]
  rcases Nat.lt_trichotomy i 63 with h1 | rfl | h1
  · rw [Nat.testBit_two_pow_add_gt h1, show decide (63 = i) = false from decide_eq_false (by omega)]
    simp
  · rw [Nat.testBit_two_pow_add_eq, Nat.testBit_lt_two_pow h]
    simp
  · rw [Nat.testBit_lt_two_pow (show b < 2 ^ i from Nat.lt_of_lt_of_le h (Nat.pow_le_pow_right (by decide) (by omega)))]
    rw [Nat.testBit_lt_two_pow (show 2 ^ 63 + b < 2 ^ i from Nat.lt_of_lt_of_le (by omega : 2 ^ 63 + b < 2 ^ 64) (Nat.pow_le_pow_right (by decide) (by omega)))]
    rw [show decide (63 = i) = false from decide_eq_false (by omega)]
    simp
theorem xor_top (a : Nat) (h : a < 18446744073709551616) : a ^^^ 9223372036854775808 = (a + 9223372036854775808) % 18446744073709551616 := by
  by_cases h1 : a < 9223372036854775808
  · rw [xor_low a h1]; omega
  · obtain ⟨b, rfl⟩ : ∃ b, a = 9223372036854775808 + b := ⟨a - 9223372036854775808, by omega⟩
    rw [← xor_low b (by omega), Nat.xor_assoc, Nat.xor_self, Nat.xor_zero, xor_low b (by omega)]
    omega
/-- A number's word: 2^63 more. -/
def wordN (n : Int) : Nat := ((n + 9223372036854775808) % 18446744073709551616).toNat
theorem u64_wrap (n : Int) : IntKind.u64.wrap n = n % 18446744073709551616 := by
  unfold IntKind.wrap
  simp [IntKind.bits, IntKind.signed]
theorem wordN_lt (n : Int) : wordN n < 18446744073709551616 := by unfold wordN; omega
theorem xor_word (n : Int) : Go.bits .xor .u64 (IntKind.u64.wrap n) 9223372036854775808 = (wordN n : Int) := by
  rw [u64_wrap, Go.u64_xor _ _ (by omega) (by omega) (by omega) (by omega)]
  rw [show (9223372036854775808 : Int).toNat = 9223372036854775808 from rfl, xor_top _ (by omega)]
  unfold wordN
  omega
def toI (l : List UInt8) : List Int := l.map fun b => (b.toNat : Int)
theorem toI_append (a b : List UInt8) : toI (a ++ b) = toI a ++ toI b := by simp [toI]
theorem toI_length (a : List UInt8) : (toI a).length = a.length := by simp [toI]
theorem str_toI (l : List UInt8) : strOfNums (toI l) = ⟨l.toArray⟩ := by
  unfold strOfNums toI
  congr 2
  rw [List.map_map]
  conv => rhs; rw [← List.map_id l]
  apply List.map_congr_left
  intro b _
  simp
/-- The lowest i bytes of a word, the highest first. -/
def downN (W : Nat) : Nat → List UInt8
  | 0 => []
  | i + 1 => UInt8.ofNat (W / 2 ^ (8 * i)) :: downN W i
theorem downN_length (W i : Nat) : (downN W i).length = i := by induction i <;> simp_all [downN]
def encN (n : Int) : List UInt8 := downN (wordN n) 8
def encT : List UInt8 → List UInt8
  | [] => []
  | c :: l => if c = 0 then 0 :: 255 :: encT l else c :: encT l
theorem encT_length (l : List UInt8) : (encT l).length ≤ 2 * l.length := by
  induction l with
  | nil => simp [encT]
  | cons c l ih => unfold encT; split <;> simp <;> omega
def txt (s : ByteArray) : List UInt8 := s.data.toList
/-- A right value's bytes. -/
def encB (x : S33) : List UInt8 :=
  if x.f0 = 1 then [UInt8.ofNat (2 + x.f1).toNat] else if x.f0 = 2 then 4 :: encN x.f1 else if x.f0 = 3 then 5 :: (encT (txt x.f2) ++ [0, 0]) else [1]
/-- Which value is right. -/
def rightV (x : S33) : Int :=
  if x.f0 = 0 then (if x.f1 = 0 ∧ txt x.f2 = [] then 0 else 2)
  else if x.f0 = 1 then (if (x.f1 = 0 ∨ x.f1 = 1) ∧ txt x.f2 = [] then 0 else 2)
  else if x.f0 = 2 then (if txt x.f2 = [] then 0 else 2)
  else if x.f0 = 3 then (if x.f1 = 0 then (if x.f2.size > 1000 then 8 else 0) else 2) else 2
theorem toList_txt (s : ByteArray) : s.toList = txt s := ByteArray.toList_eq s
theorem byte_of (W i : Nat) : ((W : Int) / 2 ^ (8 * i)) % 256 = ((UInt8.ofNat (W / 2 ^ (8 * i))).toNat : Int) := by
  simp
theorem put_num (n : Int) (a0 : Int) (a2 : ByteArray) (i : Nat) : ∀ (k : Nat) (l : List Int), i ≤ 8 → l.length + i < 140737488355328 → code_put.l0 (k + i + 1) l ((i : Int) - 1) a0 n a2 = some (l ++ toI (downN (wordN n) i)) := by
  induction i with
  | zero =>
    intro k l _ _
    rw [code_put.l0]
    rw [if_neg (by omega)]
    simp [downN, toI]
  | succ i ih =>
    intro k l hi hl
    have e : (((i + 1 : Nat) : Int) - 1) = (i : Int) := by omega
    rw [e, show k + (i + 1) + 1 = (k + i + 1) + 1 from by omega]
    rw [code_put.l0]
    have w1 : wrap64 (8 * (i : Int)) = 8 * (i : Int) := by unfold wrap64; omega
    have w2 : wrap64 ((i : Int) - 1) = (i : Int) - 1 := by unfold wrap64; omega
    rw [if_pos (by omega), w1, if_pos (by omega), if_pos (by omega), w2, ih k _ (by omega) (by simp; omega), xor_word]
    have w3 : shr .u64 (wordN n : Int) (8 * (i : Int)) = (wordN n : Int) / 2 ^ (8 * i) := by
      unfold shr
      rw [show (8 * (i : Int)).toNat = 8 * i from by omega, Nat.min_eq_left (by simp [IntKind.bits]; omega)]
    rw [w3, byte_of]
    simp [downN, toI]
theorem bt_cons {s : ByteArray} {i : Nat} (h : i < s.size) : ∃ c, bt s (i : Int) = ((c : UInt8).toNat : Int) ∧ (txt s).drop i = c :: (txt s).drop (i + 1) := by
  refine ⟨s[i], ?_, ?_⟩
  · show (if h : (i : Int).toNat < s.size then ((s[(i : Int).toNat]'h).toNat : Int) else 0) = _
    rw [dif_pos (show (i : Int).toNat < s.size from h)]
    rfl
  · have h' : i < (txt s).length := by simpa [txt] using h
    rw [List.drop_eq_getElem_cons h']
    rfl
theorem txt_length (s : ByteArray) : (txt s).length = s.size := by
  show s.data.toList.length = s.data.size
  simp
theorem txt_empty : txt ⟨#[]⟩ = [] := rfl
theorem u8_zero (c : UInt8) : ((c.toNat : Int) = 0) ↔ c = 0 := by
  constructor
  · intro h
    refine UInt8.toNat_inj.1 ?_
    have : (0 : UInt8).toNat = 0 := rfl
    omega
  · rintro rfl; rfl
theorem put_text (s : ByteArray) (hs : s.size ≤ 9223372036854775807) (a0 a1 : Int) (d : Nat) : ∀ (k i : Nat) (l : List Int), i + d = s.size → l.length + 2 * d + 2 < 140737488355328 →
    code_put.l1 (k + d + 1) l (s.size : Int) (i : Int) a0 a1 s = some (l ++ toI (encT ((txt s).drop i) ++ [0, 0])) := by
  induction d with
  | zero =>
    intro k i l hd hl
    rw [code_put.l1, if_neg (by omega)]
    simp only [Option.bind_some]
    rw [if_pos (by simp; omega), List.drop_eq_nil_of_le (by rw [txt_length]; omega)]
    simp [encT, toI]
  | succ d ih =>
    intro k i l hd hl
    obtain ⟨c, hc, hdrop⟩ := bt_cons (show i < s.size by omega)
    rw [show k + (d + 1) + 1 = (k + d + 1) + 1 from by omega, code_put.l1, if_pos (by omega), if_pos (by omega), if_pos (by omega), if_pos (by omega), hc]
    have w : wrap64 ((i : Int) + 1) = ((i + 1 : Nat) : Int) := by unfold wrap64; omega
    simp only [Option.bind_some, w]
    by_cases h0 : c = 0
    · rw [if_pos ((u8_zero c).2 h0), if_pos (by simp; omega), ih k (i + 1) _ (by omega) (by simp; omega), hdrop, h0]
      simp [encT, toI]
    · rw [if_neg (fun e => h0 ((u8_zero c).1 e)), ih k (i + 1) _ (by omega) (by simp; omega), hdrop]
      simp [encT, toI, h0]
theorem right_is (k : Nat) (x : S33) : value_Right.f (k + 1) x.f0 x.f1 x.f2 = some (rightV x) := by
  unfold value_Right.f rightV value_Null.f
  by_cases h0 : x.f0 = 0
  · simp only [h0, Option.bind_some, if_true]
    by_cases h1 : x.f1 = 0 <;> by_cases h2 : txt x.f2 = [] <;> simp [h1, h2, toList_txt, txt_empty]
  · simp only [h0, if_false]
    by_cases h1 : x.f0 = 1
    · simp only [h1, if_true]
      rw [value_Right.j0, value_Right.j0]
      by_cases h2 : x.f1 < 0
      · rw [if_pos h2]; simp; omega
      · rw [if_neg h2]
        by_cases h3 : x.f1 > 1
        · simp [h3]; omega
        · have : x.f1 = 0 ∨ x.f1 = 1 := by omega
          by_cases h4 : txt x.f2 = [] <;> simp [h3, h4, this, toList_txt]
    · by_cases h2 : x.f0 = 2
      · by_cases h4 : txt x.f2 = [] <;> simp [h2, h4, toList_txt]
      · by_cases h3 : x.f0 = 3
        · by_cases h4 : x.f1 = 0
          · by_cases h5 : x.f2.size > 1000
            · rw [if_neg h1, if_neg h2, if_pos h3, if_pos h4, if_pos (by omega), if_neg h1, if_neg h2, if_pos h3, if_pos h4, if_pos h5]
            · rw [if_neg h1, if_neg h2, if_pos h3, if_pos h4, if_neg (by omega), if_neg h1, if_neg h2, if_pos h3, if_pos h4, if_neg h5]
          · simp [h3, h4]
        · simp [h1, h2, h3]
theorem right_ref (k : Nat) (x : S33) : cordonref01_Right.f (k + 1) x.f0 x.f1 x.f2 = some (rightV x) := by
  unfold cordonref01_Right.f rightV
  simp only [cordonref01_Right.j0, toList_txt]
  by_cases h0 : x.f0 = 0
  · by_cases h1 : x.f1 = 0 <;> by_cases h2 : txt x.f2 = [] <;> simp [h0, h1, h2]
  · by_cases h1 : x.f0 = 1
    · by_cases h2 : x.f1 = 0
      · by_cases h3 : txt x.f2 = [] <;> simp [h1, h2, h3]
      · by_cases h4 : x.f1 = 1
        · by_cases h3 : txt x.f2 = [] <;> simp [h1, h4, h3]
        · simp [h1, h2, h4]
    · by_cases h2 : x.f0 = 2
      · by_cases h4 : txt x.f2 = [] <;> simp [h2, h4]
      · by_cases h3 : x.f0 = 3
        · by_cases h4 : x.f1 = 0
          · by_cases h5 : x.f2.size > 1000
            · have : (x.f2.size : Int) > 1000 := by omega
              simp [h3, h4, h5, this]
            · have : ¬ (x.f2.size : Int) > 1000 := by omega
              simp only [h3, h4, h5, this]; simp
          · simp [h3, h4]
        · simp [h0, h1, h2, h3]
theorem right_small {x : S33} (h : rightV x = 0) (h3 : x.f0 = 3) : x.f2.size ≤ 1000 := by
  unfold rightV at h
  rw [if_neg (by omega), if_neg (by omega), if_neg (by omega), if_pos h3] at h
  by_cases h4 : x.f1 = 0
  · rw [if_pos h4] at h
    by_cases h5 : x.f2.size > 1000
    · rw [if_pos h5] at h; cases h
    · omega
  · rw [if_neg h4] at h; cases h
theorem right_bool {x : S33} (h : rightV x = 0) (h1 : x.f0 = 1) : x.f1 = 0 ∨ x.f1 = 1 := by
  unfold rightV at h
  rw [if_neg (by omega), if_pos h1] at h
  by_cases h4 : (x.f1 = 0 ∨ x.f1 = 1) ∧ txt x.f2 = []
  · exact h4.1
  · rw [if_neg h4] at h; cases h
theorem encB_length {x : S33} (h : rightV x = 0) : (encB x).length ≤ 2003 := by
  unfold encB
  split
  · simp
  · split
    · simp [encN, downN_length]
    · split
      · rename_i h3
        have := right_small h h3
        have := encT_length (txt x.f2)
        rw [txt_length] at this
        simp; omega
      · simp
theorem put_is (k : Nat) (l : List Int) (x : S33) (h : rightV x = 0) (hl : l.length + 3000 < 140737488355328) : code_put.f (k + 1010) l x.f0 x.f1 x.f2 = some (l ++ toI (encB x)) := by
  unfold code_put.f encB
  by_cases h1 : x.f0 = 1
  · rw [if_pos h1, if_pos (by omega), if_pos h1]
    rcases right_bool h h1 with h2 | h2 <;> rw [h2] <;> (simp [toI, wrap64])
  · by_cases h2 : x.f0 = 2
    · rw [if_neg h1, if_pos h2, if_pos (by omega), if_neg h1, if_pos h2]
      have := put_num x.f1 x.f0 x.f2 8 (k + 1001) (l ++ [4]) (by omega) (by simp; omega)
      rw [show k + 1010 = k + 1001 + 8 + 1 from by omega]
      rw [show ((8 : Nat) : Int) - 1 = 7 from by omega] at this
      rw [this]
      simp [encN, toI]
    · by_cases h3 : x.f0 = 3
      · have hs := right_small h h3
        rw [if_neg h1, if_neg h2, if_pos h3, if_pos (by omega), if_neg h1, if_neg h2, if_pos h3]
        have := put_text x.f2 (by omega) x.f0 x.f1 x.f2.size (k + 1009 - x.f2.size) 0 (l ++ [5]) (by omega) (by simp; omega)
        rw [show k + 1009 - x.f2.size + x.f2.size + 1 = k + 1010 from by omega] at this
        rw [show ((0 : Nat) : Int) = 0 from rfl] at this
        rw [this]
        simp [toI]
      · rw [if_neg h1, if_neg h2, if_neg h3, if_pos (by omega), if_neg h1, if_neg h2, if_neg h3]
        simp [toI]
/-- The first error of a row, or 0. -/
def errR : List S33 → Int
  | [] => 0
  | x :: l => if rightV x = 0 then errR l else rightV x
def bytesR (l : List S33) : List UInt8 := l.flatMap encB
def encode (l : List S33) : ByteArray × Int := if errR l ≠ 0 then (⟨#[]⟩, errR l) else if l.length > 40 then (⟨#[]⟩, 8) else (⟨(bytesR l).toArray⟩, 0)
theorem errR_drop {l : List S33} {i : Nat} {x : S33} (h : l[i]? = some x) : errR (l.drop i) = if rightV x = 0 then errR (l.drop (i + 1)) else rightV x := by
  obtain ⟨hi, rfl⟩ := List.getElem?_eq_some_iff.1 h
  rw [List.drop_eq_getElem_cons hi]; rfl
theorem errR_all : ∀ {l : List S33}, errR l = 0 → ∀ x ∈ l, rightV x = 0
  | [], _, x, hx => by simp at hx
  | y :: l, h, x, hx => by
    unfold errR at h
    by_cases hy : rightV y = 0
    · rw [if_pos hy] at h
      rcases List.mem_cons.1 hx with rfl | hx
      · exact hy
      · exact errR_all h x hx
    · rw [if_neg hy] at h; exact absurd h hy
theorem errR_zero {l : List S33} (h : ∀ x ∈ l, rightV x = 0) : errR l = 0 := by
  induction l with
  | nil => rfl
  | cons y l ih => unfold errR; rw [if_pos (h y (by simp))]; exact ih fun x hx => h x (by simp [hx])
theorem rd_T33_at {l : List S33} {i : Nat} {x : S33} (h : l[i]? = some x) : rd_T33 l (i : Int) = x := by
  unfold rd_T33
  simp [List.getD_eq_getElem?_getD, h]
theorem bytesR_length {l : List S33} (h : ∀ x ∈ l, rightV x = 0) : (bytesR l).length ≤ 2003 * l.length := by
  induction l with
  | nil => simp [bytesR]
  | cons y l ih =>
    have h1 := encB_length (h y (by simp))
    have h2 := ih fun x hx => h x (by simp [hx])
    unfold bytesR at h2 ⊢
    rw [List.flatMap_cons, List.length_append, List.length_cons]
    omega
theorem enc_l1 (l : List S33) (hr : ∀ x ∈ l, rightV x = 0) (hn : l.length ≤ 40) (d : Nat) : ∀ (k i : Nat), i + d = l.length →
    code_Encode.l1 (k + d + 1011) (toI (bytesR (l.take i))) l (l.length : Int) (i : Int) = some (⟨(bytesR l).toArray⟩, 0) := by
  induction d with
  | zero =>
    intro k i hd
    rw [show k + 0 + 1011 = (k + 1010) + 1 from by omega, code_Encode.l1, if_neg (by omega), List.take_of_length_le (by omega), str_toI]
  | succ d ih =>
    intro k i hd
    obtain ⟨x, hx⟩ : ∃ x, l[i]? = some x := ⟨l[i]'(by omega), List.getElem?_eq_getElem (by omega)⟩
    have hm : x ∈ l := List.mem_of_getElem? hx
    have hb : (bytesR (l.take i)).length ≤ 2003 * 40 := by
      have h1 := bytesR_length (l := l.take i) (fun x hx => hr x (List.mem_of_mem_take hx))
      have h2 : (l.take i).length ≤ 40 := by simp; omega
      omega
    have w : wrap64 ((i : Int) + 1) = ((i + 1 : Nat) : Int) := by unfold wrap64; omega
    rw [show k + (d + 1) + 1011 = (k + d + 1011) + 1 from by omega, code_Encode.l1, if_pos (by omega), if_pos (by omega), if_pos (by omega), rd_T33_at hx,
      show k + d + 1011 = (k + d + 1) + 1010 from by omega, put_is _ _ _ (hr x hm) (by rw [toI_length]; omega), Option.bind_some, w]
    have e : toI (bytesR (l.take i)) ++ toI (encB x) = toI (bytesR (l.take (i + 1))) := by
      rw [List.take_add_one, hx, ← toI_append]
      simp [bytesR]
    rw [e]
    exact ih k (i + 1) (by omega)
theorem enc_l0 (l : List S33) (hl : l.length ≤ 9223372036854775807) (d : Nat) : ∀ (k i : Nat), i + d = l.length → errR (l.take i) = 0 →
    code_Encode.l0 (k + d + l.length + 1020) l l (l.length : Int) (i : Int) = some (encode l) := by
  induction d with
  | zero =>
    intro k i hd h0
    rw [List.take_of_length_le (by omega)] at h0
    rw [show k + 0 + l.length + 1020 = (k + l.length + 1019) + 1 from by omega, code_Encode.l0, if_neg (by omega)]
    have e : encode l = if l.length > 40 then (⟨#[]⟩, 8) else (⟨(bytesR l).toArray⟩, 0) := by
      unfold encode
      rw [if_neg (by rw [h0]; simp)]
    rw [e]
    by_cases h4 : l.length > 40
    · rw [if_pos (by omega), if_pos h4]
    · rw [if_neg (by omega), if_neg h4]
      have := enc_l1 l (errR_all h0) (by omega) l.length (k + 8) 0 (by omega)
      rw [show k + 8 + l.length + 1011 = k + l.length + 1019 from by omega] at this
      exact this
  | succ d ih =>
    intro k i hd h0
    obtain ⟨x, hx⟩ : ∃ x, l[i]? = some x := ⟨l[i]'(by omega), List.getElem?_eq_getElem (by omega)⟩
    have w : wrap64 ((i : Int) + 1) = ((i + 1 : Nat) : Int) := by unfold wrap64; omega
    rw [show k + (d + 1) + l.length + 1020 = (k + d + l.length + 1020) + 1 from by omega, code_Encode.l0, if_pos (by omega), if_pos (by omega), if_pos (by omega), rd_T33_at hx,
      show k + d + l.length + 1020 = (k + d + l.length + 1019) + 1 from by omega, right_is, Option.bind_some]
    by_cases h1 : rightV x = 0
    · rw [if_pos h1, w]
      refine ih k (i + 1) (by omega) ?_
      refine errR_zero fun y hy => ?_
      rw [List.take_add_one, hx] at hy
      rcases List.mem_append.1 hy with hy | hy
      · exact errR_all h0 y hy
      · simp at hy; subst hy; exact h1
    · rw [if_neg h1]
      have : errR l = rightV x := by
        have key : ∀ (a b : List S33), errR a = 0 → errR (a ++ b) = errR b := by
          intro a b h
          induction a with
          | nil => rfl
          | cons y a ih =>
            have hy := errR_all h y (by simp)
            have h' : (if rightV y = 0 then errR a else rightV y) = 0 := h
            rw [if_pos hy] at h'
            show (if rightV y = 0 then errR (a ++ b) else rightV y) = errR b
            rw [if_pos hy]
            exact ih h'
        have e : l = l.take i ++ l.drop i := (List.take_append_drop i l).symm
        rw [e, key _ _ h0, errR_drop hx, if_neg h1]
      unfold encode
      rw [if_pos (by rw [this]; exact h1), this]
theorem encode_is (k : Nat) (l : List S33) (hl : l.length ≤ 9223372036854775807) : code_Encode.f (k + 2 * l.length + 1020) l = some (encode l) := by
  unfold code_Encode.f
  have := enc_l0 l hl l.length k 0 (by omega) rfl
  rw [show k + 2 * l.length + 1020 = k + l.length + l.length + 1020 from by omega]
  exact this
end Go.Proofs.Ythghflgmeepnlaa.Pa
end
section
namespace Go.Proofs.Ythghflgmeepnlaa.Pa
open Go.RowKit Go.Proofs.YthghflgmeepnlaaW.PrintWords Go.Proofs.YthghflgmeepnlaaW.PrintLast Go.Proofs.YthghflgmeepnlaaW.PrintMore
set_option linter.unusedVariables false
set_option linter.unusedSimpArgs false
end Go.Proofs.Ythghflgmeepnlaa.Pa
end
section
namespace Go.Proofs.Ythghflgmeepnlaa.Pa
open Go.RowKit Go.Proofs.YthghflgmeepnlaaW.PrintWords Go.Proofs.YthghflgmeepnlaaW.PrintLast Go.Proofs.YthghflgmeepnlaaW.PrintMore
set_option linter.unusedVariables false
set_option linter.unusedSimpArgs false
/-- The bytes that tell a row apart. -/
def bytesOfRow (l : List S33) : ByteArray := (encode l).1
set_option maxHeartbeats 4000000 in
set_option maxRecDepth 100000 in
theorem rows_bytes_calls (A : Option Addr) (c : Nat) (l : List S33) (w : World) (hr : Kd.C k33 w A l.length l) (hc : l.length ≤ c) (hl : l.length ≤ 9223372036854775807) :
    Calls Try.prog 98 #[.slice A l.length c] w fun e w' => e = .returned (.string (bytesOfRow l)) ∧ Below w.heap.size w w' := by
  have E := Aside0.mk (code_Encode.calls (0 + 2 * l.length + 1020) A c l (encode l).1 (encode l).2 w hr hc (encode_is 0 l hl))
  have HB := Aside0.mk (Below.refl w.heap.size w)
  clear hr hc
  go_enter Try.func98, Try.ntmps98
  go_wp2_with fail
  refine E.out.mono ?_
  rintro e w1 ⟨rfl, hb⟩
  have HB1 := Aside0.mk hb
  clear hb
  go_wp2_with fail
  go_ret
  exact ⟨rfl, HB1.out⟩
end Go.Proofs.Ythghflgmeepnlaa.Pa
end
section
namespace Go.Proofs.Ythghflgmeepnlaa.Pa
open Go.RowKit Go.Proofs.YthghflgmeepnlaaW.PrintWords Go.Proofs.YthghflgmeepnlaaW.PrintLast Go.Proofs.YthghflgmeepnlaaW.PrintMore
open Go.Maps
set_option linter.unusedVariables false
set_option linter.unusedSimpArgs false
theorem law9 : Keyed Try.prog 9 := string_keyed Try.underlying9
theorem zero3m (w : World) : (zeroValue 3).run Try.prog w = .ok (.int .i64 0) w := by kernel_rfl
theorem wrapM {x : Int} (h0 : 0 ≤ x) (h1 : x < 9223372036854775808) : wrap64 x = x := by unfold wrap64; omega
/-- A text as a key. -/
abbrev ky (s : ByteArray) : List UInt8 := s.data.toList
/-- A map of how often each text has been met. -/
structure Seen (w : World) (g n : Nat) (seen : List (List UInt8)) : Prop where
  mk ::
  own : ∃ D : DataW Unit, w.ownsMap Try.prog 9 (plainElem Try.prog 3) g n D ∧ IsMap D ∧ ∀ s : List UInt8, D.atKey (.string s) (.lit (.int .i64 0)) = .lit (.int .i64 (seen.count s : Nat))
theorem Seen.start (w : World) : Seen (w.alloc (.map #[] 0)) w.heap.size 0 [] := ⟨.map [], World.ownsMap_made _ _ _ _, isMap_empty, fun s => by rfl⟩
theorem grown_of_below {w w1 : World} (h : Below w.heap.size w w1) : w.grownBy w1 none := ⟨h.os, h.tape, h.output, h.size, fun k hk _ => h.block k hk⟩
theorem Seen.grown {w w1 : World} {g n : Nat} {l : List (List UInt8)} (h : Seen w g n l) {row : Option Nat} (hg : w.grownBy w1 row) (hne : some g ≠ row) : Seen w1 g n l := by
  obtain ⟨D, h1, h2, h3⟩ := h.own
  exact ⟨D, h1.kept hg hne, h2, h3⟩
theorem Seen.below {w w1 : World} {g n : Nat} {l : List (List UInt8)} (h : Seen w g n l) (hb : Below w.heap.size w w1) : Seen w1 g n l := h.grown (grown_of_below hb) (by simp)
theorem Seen.lt {w : World} {g n : Nat} {l : List (List UInt8)} (h : Seen w g n l) : g < w.heap.size := by
  obtain ⟨D, h1, _, _⟩ := h.own
  exact h1.lt
/-- One more. -/
theorem put_count {D : DataW Unit} (hD : IsMap D) {seen : List (List UInt8)} {s : List UInt8} (h : ∀ t : List UInt8, D.atKey (.string t) (.lit (.int .i64 0)) = .lit (.int .i64 (seen.count t : Nat))) {v : Int} (hv : v = ((s :: seen).count s : Nat)) :
    IsMap (D.put (.string s) (.lit (.int .i64 v))) ∧ ∀ t : List UInt8, (D.put (.string s) (.lit (.int .i64 v))).atKey (.string t) (.lit (.int .i64 0)) = .lit (.int .i64 ((s :: seen).count t : Nat)) := by
  refine ⟨hD.put _ _, fun t => ?_⟩
  by_cases hst : t = s
  · subst hst
    rw [atKey_put_same hD (by simp [WideAt.IsKeyLit]), hv]
  · rw [atKey_put_other (fun he => hst (by injection he)), h t, List.count_cons_of_ne (fun he => hst he.symm)]
/-- What keep is. -/
def keepL (may : ByteArray → Bool) : List (List UInt8) → List (List S33) → List (List S33)
  | _, [] => []
  | seen, r :: rs => if seen.count (ky (bytesOfRow r)) = 0 ∧ may (bytesOfRow r) = true then r :: keepL may (ky (bytesOfRow r) :: seen) rs else keepL may (ky (bytesOfRow r) :: seen) rs
theorem drop_rdL {l : List (List S33)} {i : Int} (h0 : 0 ≤ i) (h1 : i < (l.length : Int)) : l.drop i.toNat = rd_L4 l i :: l.drop (i + 1).toNat := by
  have hlt : i.toNat < l.length := by omega
  rw [List.drop_eq_getElem_cons hlt, show (i + 1).toNat = i.toNat + 1 by omega]
  congr 1
  unfold rd_L4
  rw [List.getD_eq_getElem?_getD, List.getElem?_eq_getElem hlt]
  rfl
theorem N_base {α : Type} {d : Kd α} {e base : Nat} {ok : Nat → Prop} {w : World} {v : Value} {xs : List α} (h : Kd.N d e w base ok v xs) : ∀ k, v.ownBlock = some k → base ≤ k := by
  obtain ⟨_, rows, hl, hR, _⟩ := h
  obtain ⟨inner, ho⟩ := Kd.R_own hR
  exact fun k hk => own_base ho k hk
set_option maxHeartbeats 8000000 in
set_option maxRecDepth 100000 in
theorem keep_calls (fk : Nat) (caps : Array Value) (may : ByteArray → Bool) (P0_ : Nat → Prop) (A0 : Option Addr) (c0 : Nat) (l0 : List (List (S33))) (w : World) (hs0 : Kd.V (Kd.slice 33 k33) 22 w w.heap.size (fun k_ => P0_ k_) (.slice A0 l0.length c0) l0)
    (hl : l0.length < 4000000000000) (hrow : ∀ r ∈ l0, r.length ≤ 9223372036854775807) (hmax : ∀ r ∈ l0, (bytesOfRow r).size ≤ maxLen)
    (hcf : ∀ (s : ByteArray) (W : World), Sem.run Try.prog (callFunc fk (#[Value.string s] ++ caps)) W = Result.ok (Next.enter fk (#[Value.string s] ++ caps)) W)
    (hmay : ∀ (W : World) (s : ByteArray), s.size ≤ maxLen → Below w.heap.size w W → Calls Try.prog fk (#[.string s] ++ caps) W fun e w' => e = .returned (.bool (may s)) ∧ Below W.heap.size W w') :
    Calls Try.prog 99 #[.slice A0 l0.length c0, .func (.func fk) #[] caps] w fun e w' => ∃ v0_ : Value, e = .returned (v0_) ∧ Kd.N (Kd.slice 33 k33) 22 w' w.heap.size (fun k_ => (P0_ k_ ∨ w.heap.size ≤ k_)) v0_ (keepL may [] l0) ∧ Below w.heap.size w w' := by
  have hmm := @run_makeMap Try.prog
  have HO0 := Aside0.mk (Kd.V_bound hs0)
  have HB := Aside0.mk (Below.refl w.heap.size w)
  have HM := Aside0.mk hmay
  have HR := Aside0.mk hrow
  have HX := Aside0.mk hmax
  have HL := Aside0.mk hl
  clear hmay hrow hl hmax hs0
  go_enter Try.func99, Try.ntmps99
  go_wp2
  go_loopg [6, 13] l0.length (fun kq v6 v13 w' => ∃ (x6 : List (List S33)) (x13 : Int) (seen : List (List UInt8)), v13 = .int .i64 x13 ∧ Aside0 (0 ≤ x13 ∧ x13 + kq = l0.length) ∧ Aside0 (x6.length ≤ x13.toNat) ∧ Aside0 (x6 ++ keepL may seen (l0.drop x13.toNat) = keepL may [] l0) ∧ Aside0 (seen.length = x13.toNat) ∧ Aside0 (Seen w' w.heap.size x13.toNat seen) ∧ Aside0 (Kd.V (Kd.slice 33 k33) 22 w' w.heap.size (fun k_ => P0_ k_ ∧ k_ < w.heap.size) (.slice A0 l0.length c0) l0) ∧ Aside0 (Kd.N (Kd.slice 33 k33) 22 w' w.heap.size (fun k_ => (P0_ k_ ∧ k_ < w.heap.size) ∨ w.heap.size < k_) v6 x6) ∧ Aside0 (Below w.heap.size w w'))
  case atStart => exact ⟨[], 0, [], rfl, ⟨by simp⟩, ⟨by simp⟩, ⟨by simp⟩, ⟨rfl⟩, ⟨Seen.start w⟩, ⟨Kd.V_alloc HO0.out _⟩, ⟨Kd.N_nil _ _ _ _ _⟩, ⟨below_alloc HB.out _⟩⟩
  case round =>
    clear HB HO0
    obtain ⟨x6, x13, seen, rfl, HI, HZ, HA, HS, HD, HV, HN, HB⟩ := hrel
    by_cases c2 : x13 < (l0.length : Int)
    · have c2b : decide (x13 < (l0.length : Int)) = true := decide_eq_true c2
      have p0 : 0 ≤ x13 := HI.out.1
      have c2c : decide (0 ≤ x13) = true := decide_eq_true p0
      obtain ⟨k1, rfl⟩ : ∃ k1, gk = k1 + 1 := ⟨gk - 1, by have := HI.out.2; omega⟩
      obtain ⟨ad, A1, c1, e1, hx1, hl1, hi1⟩ := at_L4 (Kd.V_reads' HV.out).2.2 x13 p0 c2
      cases e1
      obtain ⟨ce, hce, hMe, hcc⟩ := Kd.V_get HV.out [] x13 p0 c2
      obtain ⟨ua, uc, rfl, ul, ge⟩ := Kd.FK_slice_open hMe
      have hv := hcc 0 _ rfl
      rw [Nat.add_zero, show ((Kd.slice 33 k33)).sz = 1 from rfl, Nat.mul_one] at hv
      replace hv := Option.some.inj (hv.symm.trans hx1)
      injection hv with hva_ hvn_ hvc_
      rw [hva_] at ge
      rw [hvc_] at ul
      have HF := Aside0.mk (show Kd.V k33 33 _ w.heap.size _ _ (rd_L4 l0 x13) from Kd.V_mk ul ge)
      clear hva_ hvn_ hvc_ ge ul hcc hce hMe
      have HR1 := Aside0.mk hi1
      have HC1 := Aside0.mk hl1
      clear hi1 hl1
      obtain ⟨Ao, co, eo⟩ := Kd.N_slice HN.out
      subst eo
      have p1 := eq_true p0
      have q1 := eq_true c2
      have hmem : rd_L4 l0 x13 ∈ l0 := by
        have hlt : x13.toNat < l0.length := by omega
        unfold rd_L4
        rw [List.getD_eq_getElem?_getD, List.getElem?_eq_getElem hlt]
        exact List.getElem_mem hlt
      have hrl := HR.out _ hmem
      have hkey : keyOf Try.prog 9 (.string (bytesOfRow (rd_L4 l0 x13))) = some (.string (ky (bytesOfRow (rd_L4 l0 x13)))) := WideMaps.keyOf_string_mk Try.underlying9 (HX.out _ hmem)
      have hcl : (seen.count (ky (bytesOfRow (rd_L4 l0 x13)))) ≤ seen.length := List.count_le_length
      have hnl := HL.out
      have hds := HS.out
      have HK := Aside0.mk (show x13.toNat < maxLen by unfold maxLen; omega)
      have E14 := Aside0.mk (show wrap64 (x13 + 1) = x13 + 1 from wrapM (by omega) (by omega))
      have HI' := Aside0.mk (show 0 ≤ x13 + 1 ∧ x13 + 1 + (k1 : Int) = l0.length by have := HI.out.2; omega)
      have HS' := Aside0.mk (show (ky (bytesOfRow (rd_L4 l0 x13)) :: seen).length = (x13 + 1).toNat by rw [List.length_cons, hds]; omega)
      have E15 := Aside0.mk (show (x13 + 1).toNat = x13.toNat + 1 by omega)
      have LM := Aside0.mk (show x6.length < 4000000000000 by have := HZ.out; omega)
      have hA := HA.out
      rw [drop_rdL p0 c2, keepL] at hA
      have HA := Aside0.mk hA
      clear hA
      go_wp2_with fail
      refine (rows_bytes_calls _ _ (rd_L4 l0 x13) _ HR1.out HC1.out hrl).mono ?_
      rintro e w1 ⟨rfl, hb⟩
      obtain ⟨D, hown, hIs, hcnt⟩ := (HD.out.below hb).own
      have HV1 := Aside0.mk (Kd.V_below HV.out hb)
      have HN1 := Aside0.mk (Kd.N_below HN.out hb)
      have HF1 := Aside0.mk (Kd.V_below HF.out hb)
      have HB1 := Aside0.mk (below_step HB.out hb)
      clear hb HV HN HF HB HD
      by_cases c3 : seen.count (ky (bytesOfRow (rd_L4 l0 x13))) = 0
      · have hC1 : (1 : Int) = ((ky (bytesOfRow (rd_L4 l0 x13)) :: seen).count (ky (bytesOfRow (rd_L4 l0 x13))) : Nat) := by
          rw [List.count_cons_self]; omega
        have HPC := Aside0.mk (put_count hIs hcnt hC1)
        have HC0 := Aside0.mk (hcnt (ky (bytesOfRow (rd_L4 l0 x13))))
        rw [c3] at HC0
        have C3 := Aside0.mk c3
        clear c3 hC1 hnl hds hcl hIs hcnt
        go_wp2_with (first
          | (at_lookup; refine wpList_lookup_own_int _ rfl _ _ 103 rfl 9 3 .i64 law9 Try.underlying103 Try.underlying3 (zero3m _) w.heap.size _ _ rfl hown1 _ _ rfl hkey ?_; intro c1 hat1 hwc1; (have e1 : c1 = 1 := by (have h1 := hat1.symm.trans (HPC.out.2 _); injection h1 with h1; injection h1 with _ h1; rw [h1, List.count_cons_self, C3.out]; rfl)); subst e1; clear hat1 hwc1)
          | (at_lookup; refine wpList_lookup_own_int _ rfl _ _ 103 rfl 9 3 .i64 law9 Try.underlying103 Try.underlying3 (zero3m _) w.heap.size _ _ rfl hown _ _ rfl hkey ?_; intro c hat hwc; (have e1 : c = 0 := by (have h1 := hat.symm.trans HC0.out; injection h1 with h1; injection h1)); subst e1; clear hat hwc)
          | (at_mapUpdate; refine wpList_mapUpdate_own _ rfl _ _ _ 103 rfl 9 3 law9 Try.underlying103 _ w.heap.size _ _ rfl hown HK.out _ _ _ rfl rfl hkey _ [] (plainElem_int Try.underlying3 (by decide)) ?_; intro w2 hown1 hg1))
        have HD2 := Aside0.mk (Seen.mk ⟨_, hown1, HPC.out.1, HPC.out.2⟩)
        have HV2 := Aside0.mk (Kd.V_grown HV1.out hg1 (fun k hk he => by injection he with he; have := hk.2; omega))
        have HF2 := Aside0.mk (Kd.V_grown HF1.out hg1 (fun k hk he => by injection he with he; have := hk.2; omega))
        have HN2 := Aside0.mk (Kd.N_grown HN1.out hg1 (fun k hk he => by injection he with he; rcases hk with hk | hk <;> omega))
        have HB2 := Aside0.mk (pw_below_grown HB1.out _ (below_size HB1.out) hg1 (fun k hk => by injection hk with hk; omega))
        clear HV1 HF1 HN1 HB1 hg1 hown1 hown
        refine (HM.out _ _ (HX.out _ hmem) HB2.out).mono ?_
        rintro e w3 ⟨rfl, hb⟩
        have HD3 := Aside0.mk (HD2.out.below hb)
        have HV3 := Aside0.mk (Kd.V_below HV2.out hb)
        have HF3 := Aside0.mk (Kd.V_below HF2.out hb)
        have HN3 := Aside0.mk (Kd.N_below HN2.out hb)
        have HB3 := Aside0.mk (below_step HB2.out hb)
        clear hb HV2 HN2 HF2 HB2 HD2
        by_cases c4 : may (bytesOfRow (rd_L4 l0 x13)) = true
        · have hA := HA.out
          rw [if_pos ⟨C3.out, c4⟩] at hA
          go_wp2_with ((with_reducible refine gate_builtin (b := .append) (xs := #[.tmp 32, .tmp 34]) rfl ?_); at_builtin; refine Kd.N_append (Kd.slice 33 k33) (w0 := w) w.heap.size rfl (.tmp 32) (.tmp 34) 58 22 (.slice none 0 0) 24 rfl Try.underlying58 info22 rfl (by decide) (by omega) (.slice Ao x6.length co) x6 (rd_L4 l0 x13) [.slice A1 (rd_L4 l0 x13).length c1] (fun k_ => (P0_ k_ ∧ k_ < w.heap.size) ∨ w.heap.size < k_) (fun k_ => P0_ k_ ∧ k_ < w.heap.size) rfl rfl ?aP ?aK ?aF ?aO ?aB ?aS ?aL ?_; (case aP => exact (Kd.FK_slice_mk (Kd.V_reads' HF3.out).2.1 (Kd.V_F HF3.out))); (case aK => exact (fun k hk => ⟨.inl hk, fun he => by have h1 := N_base HN3.out k he.symm; have h2 := hk.2; omega⟩)); (case aB => exact HB3.out); (case aF => exact (fun k hk => .inr (Nat.lt_of_lt_of_le HD3.out.lt hk))); (case aO => exact HN3.out); (case aS => exact below_size HB3.out); (case aL => have := LM.out; omega); intro v9 w9 ho hb hg hat; have HN9 := Aside0.mk ho; have HB9 := Aside0.mk hb; have HV9 := Aside0.mk (Kd.V_grown HV3.out hg (fun k hk he => by have h1 := N_base HN3.out k he.symm; have h2 := hk.2; omega)); have HD9 := Aside0.mk (HD3.out.grown hg (fun he => by have h1 := HN3.out.1 _ he.symm; rcases h1 with h1 | h1 <;> omega)); clear ho hb hg hat HN3 HB3 HV3 HF3 HD3)
          go_roundg k1
          case measure => omega
          case rel => exact ⟨x6 ++ [rd_L4 l0 x13], x13 + 1, _, by rw [E14.out], HI', ⟨by rw [List.length_append, E15.out]; have := HZ.out; simp only [List.length_cons, List.length_nil]; omega⟩, ⟨by rw [List.append_assoc]; exact hA⟩, HS', ⟨by rw [E15.out]; exact HD9.out⟩, HV9, HN9, HB9⟩
        · have hA := HA.out
          rw [if_neg (fun h => c4 h.2)] at hA
          replace c4 : may (bytesOfRow (rd_L4 l0 x13)) = false := Bool.eq_false_iff.mpr c4
          rw [c4]
          go_wp2_with fail
          go_roundg k1
          case measure => omega
          case rel => exact ⟨x6, x13 + 1, _, by rw [E14.out], HI', ⟨by rw [E15.out]; have := HZ.out; omega⟩, ⟨hA⟩, HS', ⟨by rw [E15.out]; exact HD3.out⟩, HV3, HN3, HB3⟩
      · have HCN := Aside0.mk (⟨hcnt, hIs⟩ : (∀ s : List UInt8, D.atKey (.string s) (.lit (.int .i64 0)) = .lit (.int .i64 (seen.count s : Nat))) ∧ IsMap D)
        have C3 := Aside0.mk (⟨c3, hcl, hds, hnl, c2⟩ : seen.count (ky (bytesOfRow (rd_L4 l0 x13))) ≠ 0 ∧ seen.count (ky (bytesOfRow (rd_L4 l0 x13))) ≤ seen.length ∧ seen.length = x13.toNat ∧ l0.length < 4000000000000 ∧ x13 < (l0.length : Int))
        have hA := HA.out
        rw [if_neg (fun h => c3 h.1)] at hA
        have HA' := Aside0.mk hA
        clear hA c3 hnl hds hcl hIs hcnt
        go_wp2_with (first
          | (at_lookup; refine wpList_lookup_own_int _ rfl _ _ 103 rfl 9 3 .i64 law9 Try.underlying103 Try.underlying3 (zero3m _) w.heap.size _ _ rfl hown1 _ _ rfl hkey ?_; intro c1 hat1 hwc1; (have e1 : c1 = wrap64 (c + 1) := by (have h1 := hat1.symm.trans ((put_count HCN.out.2 HCN.out.1 HC1x.out).2 _); injection h1 with h1; injection h1 with _ h1; exact h1.trans HC1x.out.symm)); subst e1; clear hat1 hwc1)
          | (at_lookup; refine wpList_lookup_own_int _ rfl _ _ 103 rfl 9 3 .i64 law9 Try.underlying103 Try.underlying3 (zero3m _) w.heap.size _ _ rfl hown _ _ rfl hkey ?_; intro c hat hwc; (have hC1 : wrap64 (c + 1) = ((ky (bytesOfRow (rd_L4 l0 x13)) :: seen).count (ky (bytesOfRow (rd_L4 l0 x13))) : Nat) := by (have h1 := hat.symm.trans (HCN.out.1 _); injection h1 with h1; injection h1 with _ h1; have h2 := C3.out; rw [List.count_cons_self, wrapM (by omega) (by omega)]; omega)); (have c3b : (wrap64 (c + 1) == 1) = false := beq_eq_false_iff_ne.mpr (by (rw [hC1, List.count_cons_self]; have h2 := C3.out; omega))); have HC1x := Aside0.mk hC1; clear hat hwc hC1)
          | (at_mapUpdate; refine wpList_mapUpdate_own _ rfl _ _ _ 103 rfl 9 3 law9 Try.underlying103 _ w.heap.size _ _ rfl hown HK.out _ _ _ rfl rfl hkey _ [] (plainElem_int Try.underlying3 (wrap64_wf _)) ?_; intro w2 hown1 hg1))
        have HPC := put_count HCN.out.2 HCN.out.1 HC1x.out
        have HD2 := Aside0.mk (Seen.mk ⟨_, hown1, HPC.1, HPC.2⟩)
        have HV2 := Aside0.mk (Kd.V_grown HV1.out hg1 (fun k hk he => by injection he with he; have := hk.2; omega))
        have HN2 := Aside0.mk (Kd.N_grown HN1.out hg1 (fun k hk he => by injection he with he; rcases hk with hk | hk <;> omega))
        have HB2 := Aside0.mk (pw_below_grown HB1.out _ (below_size HB1.out) hg1 (fun k hk => by injection hk with hk; omega))
        go_roundg k1
        case measure => omega
        case rel => exact ⟨x6, x13 + 1, _, by rw [E14.out], HI', ⟨by rw [E15.out]; have := HZ.out; omega⟩, HA', HS', ⟨by rw [E15.out]; exact HD2.out⟩, HV2, HN2, HB2⟩
    · have c2b : decide (x13 < (l0.length : Int)) = false := decide_eq_false c2
      have e13 : x13.toNat = l0.length := by have := HI.out; omega
      have hA := HA.out
      rw [e13, List.drop_length] at hA
      simp only [keepL, List.append_nil] at hA
      subst hA
      go_wp2_with fail
      go_ret
      exact ⟨_, rfl, Kd.N_mono HN.out (fun k hk => hk.imp (fun h => h.1) (fun h => Nat.le_of_lt h)), HB.out⟩
end Go.Proofs.Ythghflgmeepnlaa.Pa
end
section
namespace Go.Proofs.Ythghflgmeepnlaa.Pa
open Go.RowKit Go.Proofs.YthghflgmeepnlaaW.PrintWords Go.Proofs.YthghflgmeepnlaaW.PrintLast Go.Proofs.YthghflgmeepnlaaW.PrintMore
open Go.Maps
set_option linter.unusedVariables false
set_option linter.unusedSimpArgs false
theorem enter_of {f : FuncId} {fn : Func} (hf : Try.prog.funcs[f]? = some fn) (hname : (fn.name == "runtime.NumGoroutine") = false) (hb : fn.body.isNone = false) (args : Array Value) (W : World) :
    Sem.run Try.prog (callFunc f args) W = Result.ok (Next.enter f args) W := by
  have h1 : ¬ fn.name = "runtime.NumGoroutine" := by simpa using hname
  have h2 : ¬ fn.body = none := by intro h; simp [h] at hb
  unfold callFunc
  simp [go_sem, hf]
  rw [if_neg h1, if_neg h2]
set_option maxHeartbeats 4000000 in
set_option maxRecDepth 100000 in
theorem true_calls (s : ByteArray) (w : World) : Calls Try.prog 100 (#[.string s] ++ #[]) w fun e w' => e = .returned (.bool true) ∧ Below w.heap.size w w' := by
  have HB := Aside0.mk (Below.refl w.heap.size w)
  go_enter Try.func100, Try.ntmps100
  go_wp2
  go_ret
  exact ⟨rfl, HB.out⟩
/-- Each row once. -/
def distinctL (l : List (List S33)) : List (List S33) := keepL (fun _ => true) [] l
set_option maxHeartbeats 4000000 in
set_option maxRecDepth 100000 in
theorem rows_Distinct_calls (P0_ : Nat → Prop) (A0 : Option Addr) (c0 : Nat) (l0 : List (List (S33))) (w : World) (hs0 : Kd.V (Kd.slice 33 k33) 22 w w.heap.size (fun k_ => P0_ k_) (.slice A0 l0.length c0) l0)
    (hl : l0.length < 4000000000000) (hrow : ∀ r ∈ l0, r.length ≤ 9223372036854775807) (hmax : ∀ r ∈ l0, (bytesOfRow r).size ≤ maxLen) :
    Calls Try.prog 61 #[.slice A0 l0.length c0] w fun e w' => ∃ v0_ : Value, e = .returned (v0_) ∧ Kd.N (Kd.slice 33 k33) 22 w' w.heap.size (fun k_ => (P0_ k_ ∨ w.heap.size ≤ k_)) v0_ (distinctL l0) ∧ Below w.heap.size w w' := by
  have HK := Aside0.mk (keep_calls 100 #[] (fun _ => true) P0_ A0 c0 l0 w hs0 hl hrow hmax (fun s W => enter_of Try.func100 (by kernel_rfl) (by kernel_rfl) _ W) (fun W s _ _ => true_calls s W))
  clear hs0 hl hrow hmax
  go_enter Try.func61, Try.ntmps61
  go_wp2_with fail
  refine HK.out.mono ?_
  rintro e w1 ⟨v0, rfl, hn, hb⟩
  have HN := Aside0.mk hn
  have HB := Aside0.mk hb
  clear hn hb
  obtain ⟨Ao, co, eo⟩ := Kd.N_slice HN.out
  subst eo
  go_wp2
  go_ret
  exact ⟨_, rfl, HN.out, HB.out⟩
end Go.Proofs.Ythghflgmeepnlaa.Pa
end
section
namespace Go.Proofs.Ythghflgmeepnlaa.Pa
open Go.RowKit Go.Proofs.YthghflgmeepnlaaW.PrintWords Go.Proofs.YthghflgmeepnlaaW.PrintLast Go.Proofs.YthghflgmeepnlaaW.PrintMore
set_option linter.unusedVariables false
set_option linter.unusedSimpArgs false
/-- A place as a cell. -/
abbrev enN (n : Nat) : Value := .int .i64 (n : Int)
/-- Block g holds these places. -/
def HoldI (W : World) (g : Nat) (xs : List Nat) : Prop := W.heap[g]? = some (.cells (xs.map enN).toArray 3 (0, 0))
theorem HoldI.cell {W : World} {g : Nat} {xs : List Nat} (h : HoldI W g xs) {i x : Nat} (hi : xs[i]? = some x) : W.cell? ⟨g, i, none⟩ = some (enN x) := by
  rw [blk_cell h i]; simp [hi]
theorem HoldI.free {W : World} {g : Nat} {xs : List Nat} (h : HoldI W g xs) (i : Nat) : W.frozen? ⟨g, i, none⟩ = false := by
  simp [World.frozen?, show W.heap[g]? = _ from h]
theorem HoldI.lt {W : World} {g : Nat} {xs : List Nat} (h : HoldI W g xs) : g < W.heap.size := lt_of_block h
theorem HoldI.below {W W1 : World} {g : Nat} {xs : List Nat} (h : HoldI W g xs) (hb : Below W.heap.size W W1) : HoldI W1 g xs := (hb.block g h.lt).trans h
theorem HoldI.set {W : World} {g : Nat} {xs : List Nat} (h : HoldI W g xs) (i x : Nat) : HoldI (W.setCell ⟨g, i, none⟩ (enN x)) g (xs.set i x) := by
  have hlt := h.lt
  have h' : W.heap[g] = .cells (xs.map enN).toArray 3 (0, 0) := by simpa [Array.getElem?_eq_getElem hlt] using (show W.heap[g]? = _ from h)
  unfold HoldI
  show (W.heap.modify g _)[g]? = _
  rw [Array.getElem?_eq_getElem (by simpa using hlt), Array.getElem_modify_self, h']
  simp [List.map_set]
theorem gr_drew {w W : World} {r : Option Nat} (h : w.grownBy W r) : w.grownBy W.drew r := ⟨h.os, h.tape, h.output, h.size, h.block⟩
theorem gr_below {w W W1 : World} {r : Option Nat} (h : w.grownBy W r) (hb : Below W.heap.size W W1) : w.grownBy W1 r :=
  ⟨hb.os.trans h.os, hb.tape.trans h.tape, hb.output.trans h.output, Nat.le_trans h.size hb.size, fun k hk hr => (hb.block k (Nat.lt_of_lt_of_le hk h.size)).trans (h.block k hk hr)⟩
theorem gr_set {w W : World} {g j : Nat} (h : w.grownBy W (some g)) (v : Value) : w.grownBy (W.setCell ⟨g, j, none⟩ v) (some g) := by
  refine ⟨h.os, h.tape, h.output, ?_, fun k hk hr => ?_⟩
  · simpa [World.setCell] using h.size
  · exact (Below.heap_setCell W ⟨g, j, none⟩ v k (fun e => hr (by rw [e]))).trans (h.block k hk hr)
/-- Two neighbours changed about. -/
def swp1 (xs : List Nat) (j : Nat) : List Nat := (xs.set (j + 1) (xs.getD j 0)).set j (xs.getD (j + 1) 0)
/-- The inner loop. -/
def insIn (cf : Nat → Nat → Int) (a : Nat) : Nat → List Nat → List Nat
  | 0, xs => xs
  | j + 1, xs => if a < j + 1 ∧ cf (xs.getD (j + 1) 0) (xs.getD j 0) < 0 then insIn cf a j (swp1 xs j) else xs
/-- The outer loop. -/
def insOut (cf : Nat → Nat → Int) (a : Nat) : Nat → Nat → List Nat → List Nat
  | 0, _, xs => xs
  | n + 1, i, xs => insOut cf a n (i + 1) (insIn cf a i xs)
def insS (cf : Nat → Nat → Int) (a b : Nat) (xs : List Nat) : List Nat := insOut cf a (b - (a + 1)) (a + 1) xs
theorem swp1_length (xs : List Nat) (j : Nat) : (swp1 xs j).length = xs.length := by simp [swp1]
theorem getD_mem {xs : List Nat} {j : Nat} (h : j < xs.length) : xs.getD j 0 ∈ xs := by
  rw [List.getD_eq_getElem?_getD, List.getElem?_eq_getElem h]; exact List.getElem_mem h
theorem swp1_mem {xs : List Nat} {j x : Nat} (hj : j + 1 < xs.length) (h : x ∈ swp1 xs j) : x ∈ xs := by
  unfold swp1 at h
  rcases List.mem_or_eq_of_mem_set h with h | h
  · rcases List.mem_or_eq_of_mem_set h with h | h
    · exact h
    · rw [h]; exact getD_mem (by omega)
  · rw [h]; exact getD_mem hj
set_option maxHeartbeats 8000000 in
set_option maxRecDepth 1000000 in
theorem ins_calls (fk : Nat) (caps : Array Value) (cf : Nat → Nat → Int) (N g cap a b : Nat) (xs : List Nat) (w : World)
    (hh : HoldI w g xs) (hab : a ≤ b) (hb : b ≤ xs.length) (hsz : xs.length < 4611686018427387904) (hx : ∀ x ∈ xs, x < N)
    (hcf : ∀ (x y : Nat) (W : World), Sem.run Try.prog (callFunc fk (#[enN x, enN y] ++ caps)) W = Result.ok (Next.enter fk (#[enN x, enN y] ++ caps)) W)
    (hcmp : ∀ (W : World) (x y : Nat), w.grownBy W (some g) → x < N → y < N → Calls Try.prog fk (#[enN x, enN y] ++ caps) W fun e w' => e = .returned (.int .i64 (cf x y)) ∧ Below W.heap.size W w') :
    Calls Try.prog 114 #[.slice (some ⟨g, 0, none⟩) xs.length cap, .int .i64 a, .int .i64 b, .func (.func fk) #[] caps] w fun e w' => e = .returned (.tuple #[]) ∧ w.grownBy w' (some g) ∧ HoldI w' g (insS cf a b xs) := by
  have HC := Aside0.mk hcmp
  have HH := Aside0.mk hh
  have HX := Aside0.mk hx
  have HG := Aside0.mk (show w.grownBy w (some g) from ⟨rfl, rfl, rfl, Nat.le_refl _, fun _ _ _ => rfl⟩)
  clear hcmp hh hx
  go_enter Try.func114, Try.ntmps114
  go_wp2
  go_loopg [8] (b - a) (fun g1 vi wr => ∃ (i : Nat) (dk : List Nat), vi = .int .i64 i ∧ a < i ∧ i ≤ b + 1 ∧ b + 1 - i ≤ g1 + 1 ∧ dk.length = xs.length ∧ Aside0 (HoldI wr g dk) ∧ Aside0 (∀ x ∈ dk, x < N) ∧ Aside0 (w.grownBy wr (some g)) ∧ Aside0 (insOut cf a (b - i) i dk = insS cf a b xs))
  case atStart => exact ⟨a + 1, xs, by go_num, by omega, by omega, by omega, rfl, HH, HX, HG, ⟨rfl⟩⟩
  case round =>
    clear HH HX HG
    obtain ⟨i, dk, rfl, hai, hib, hg1, hsk, HH, HX, HG, HO⟩ := hrel
    by_cases hlt : i < b
    · have hltz : (i : Int) < (b : Int) := by omega
      go_wp2
      go_loopg [9] i (fun g2 vj wr2 => ∃ (j : Nat) (dj : List Nat), vj = .int .i64 j ∧ a ≤ j ∧ j ≤ i ∧ j ≤ g2 ∧ dj.length = xs.length ∧ Aside0 (HoldI wr2 g dj) ∧ Aside0 (∀ x ∈ dj, x < N) ∧ Aside0 (w.grownBy wr2 (some g)) ∧ Aside0 (insIn cf a j dj = insIn cf a i dk))
      case atStart => exact ⟨i, dk, rfl, by omega, Nat.le_refl _, Nat.le_refl _, hsk, HH, HX, HG, ⟨rfl⟩⟩
      case round =>
        clear HH HX HG
        obtain ⟨j, dj, rfl, haj, hji, hg2, hsj, HH, HX, HG, HI⟩ := hrel
        have HO2 := Aside0.mk (show insOut cf a (b - (i + 1)) (i + 1) (insIn cf a j dj) = insS cf a b xs by rw [HI.out, ← HO.out, show b - i = (b - (i + 1)) + 1 by omega]; rfl)
        by_cases hja : a < j
        · obtain ⟨jp, rfl⟩ : ∃ jp, j = jp + 1 := ⟨j - 1, by omega⟩
          obtain ⟨xj, hxj⟩ : ∃ x, dj.getD (jp + 1) 0 = x := ⟨_, rfl⟩
          obtain ⟨xp, hxp⟩ : ∃ x, dj.getD jp 0 = x := ⟨_, rfl⟩
          have hjl : jp + 1 < dj.length := by omega
          have e1 : dj[jp + 1]? = some xj := by rw [← hxj, List.getD_eq_getElem?_getD, List.getElem?_eq_getElem hjl]; rfl
          have e2 : dj[jp]? = some xp := by rw [← hxp, List.getD_eq_getElem?_getD, List.getElem?_eq_getElem (by omega)]; rfl
          have cj := HH.out.cell e1
          have cp := HH.out.cell e2
          have fj := HH.out.free (jp + 1)
          have fp := HH.out.free jp
          have nj := HX.out xj (List.mem_of_getElem? e1)
          have np := HX.out xp (List.mem_of_getElem? e2)
          have hjaz : (a : Int) < (jp : Int) + 1 := by omega
          have hwp : IntKind.i64.wrap (jp : Int) = (jp : Int) := by rw [IntKind.wrap_i64]; omega
          have jz : (jp : Int) + 1 < (xs.length : Int) := by omega
          have jz1 : (jp : Int) < (xs.length : Int) := by omega
          have p0 : (0 : Int) ≤ (jp : Int) + 1 := by omega
          have e0 : ((jp : Int) + 1).toNat = jp + 1 := by omega
          have E1 := Aside0.mk e1
          have E2 := Aside0.mk e2
          clear e1 e2
          by_cases hlv : cf xj xp < 0
          · go_wp2_with fail
            go_region_held3 (fun w' => w'.cell? ⟨g, jp + 1, none⟩ = some (enN xj) ∧ w'.cell? ⟨g, jp, none⟩ = some (enN xp))
              (first | go_keep | (refine ⟨?_, ?_⟩ <;> refine pw_cell_below hbl ?_ <;> first | assumption | (simp only [*]; done)))
              (first | (refine (HC.out _ xj xp (by first | exact HG.out | exact gr_drew HG.out) nj np).mono ?_; rintro e w' ⟨rfl, hbl⟩; have n0_ := Aside0.mk (gr_below (by first | exact HG.out | exact gr_drew HG.out) hbl); have n1_ := Aside0.mk (HoldI.below (by first | exact HH.out | exact HH.out.drew) hbl); clear HG HH; have HG := n0_; have HH := n1_; clear n0_ n1_))
            clear cj cp fj fp
            go_wp2_with fail
            have cj := HH.out.cell E1.out
            have cp := HH.out.cell E2.out
            have fj := HH.out.free (jp + 1)
            have fp := HH.out.free jp
            obtain ⟨j1, hj1⟩ : ∃ j1, j1 = jp + 1 := ⟨_, rfl⟩
            rw [← hj1] at cj fj e0
            have J1 := Aside0.mk hj1
            clear hj1
            go_region
            all_goals go_wp2
            have hs1 := HoldI.set (HoldI.set HH.out j1 xp) jp xj
            have hg1 := gr_set (j := jp) (gr_set (j := j1) HG.out (enN xp)) (enN xj)
            have hsw : swp1 dj jp = (dj.set j1 xp).set jp xj := by unfold swp1; rw [hxj, hxp, J1.out]
            rw [← hsw] at hs1
            go_roundg jp
            case measure => omega
            case rel =>
              refine ⟨jp, swp1 dj jp, by first | rfl | go_num | (congr 1; omega), by omega, by omega, Nat.le_refl _, by rw [swp1_length]; exact hsj, ⟨by first | exact hs1 | exact hs1.drew⟩, ⟨fun x hx => HX.out x (swp1_mem hjl hx)⟩, ⟨by first | exact hg1 | exact gr_drew hg1⟩, ⟨?_⟩⟩
              rw [← HI.out, insIn, if_pos ⟨by omega, by rw [hxj, hxp]; exact hlv⟩]
          · have hO := HO2.out
            rw [insIn, if_neg (fun h => hlv (by rw [← hxj, ← hxp]; exact h.2))] at hO
            go_wp2_with fail
            go_region_held3 (fun w' => w'.cell? ⟨g, jp + 1, none⟩ = some (enN xj) ∧ w'.cell? ⟨g, jp, none⟩ = some (enN xp))
              (first | go_keep | (refine ⟨?_, ?_⟩ <;> refine pw_cell_below hbl ?_ <;> first | assumption | (simp only [*]; done)))
              (first | (refine (HC.out _ xj xp (by first | exact HG.out | exact gr_drew HG.out) nj np).mono ?_; rintro e w' ⟨rfl, hbl⟩; have n0_ := Aside0.mk (gr_below (by first | exact HG.out | exact gr_drew HG.out) hbl); have n1_ := Aside0.mk (HoldI.below (by first | exact HH.out | exact HH.out.drew) hbl); clear HG HH; have HG := n0_; have HH := n1_; clear n0_ n1_))
            go_wp2
            go_roundg (b - (i + 1))
            case measure => omega
            case rel => exact ⟨i + 1, dj, by go_num, by omega, by omega, by omega, hsj, HH, HX, HG, ⟨hO⟩⟩
        · have hjaz : decide ((j : Int) > (a : Int)) = false := decide_eq_false (by omega)
          have hjaz' : ¬ (a : Int) < (j : Int) := by omega
          have hO := HO2.out
          have hin : insIn cf a j dj = dj := by
            cases j with
            | zero => rfl
            | succ j => rw [insIn, if_neg (fun h => hja h.1)]
          rw [hin] at hO
          go_wp2_with fail
          go_region
          all_goals go_wp2
          go_roundg (b - (i + 1))
          case measure => omega
          case rel => exact ⟨i + 1, dj, by go_num, by omega, by omega, by omega, hsj, ⟨by first | exact HH.out | exact HH.out.drew⟩, HX, ⟨by first | exact HG.out | exact gr_drew HG.out⟩, ⟨hO⟩⟩
    · have hltz : ¬ (i : Int) < (b : Int) := by omega
      go_wp2
      go_end0
      exact ⟨rfl, HG.out, by rw [← HO.out, show b - i = 0 by omega]; exact HH.out⟩
end Go.Proofs.Ythghflgmeepnlaa.Pa
end
section
namespace Go.Proofs.Ythghflgmeepnlaa.Pa
open Go.RowKit Go.Proofs.YthghflgmeepnlaaW.PrintWords Go.Proofs.YthghflgmeepnlaaW.PrintLast Go.Proofs.YthghflgmeepnlaaW.PrintMore
set_option linter.unusedVariables false
set_option linter.unusedSimpArgs false
/-- What is asked of a comparison, from world w on, block g aside. -/
structure CmpOk (fk : Nat) (caps : Array Value) (cf : Nat → Nat → Int) (N g : Nat) (w : World) : Prop where
  enter : ∀ (x y : Nat) (W : World), Sem.run Try.prog (callFunc fk (#[enN x, enN y] ++ caps)) W = Result.ok (Next.enter fk (#[enN x, enN y] ++ caps)) W
  call : ∀ (W : World) (x y : Nat), w.grownBy W (some g) → x < N → y < N → Calls Try.prog fk (#[enN x, enN y] ++ caps) W fun e w' => e = .returned (.int .i64 (cf x y)) ∧ Below W.heap.size W w'
theorem gr_trans {w W W1 : World} {r : Option Nat} (h : w.grownBy W r) (k : W.grownBy W1 r) : w.grownBy W1 r :=
  ⟨k.os.trans h.os, k.tape.trans h.tape, k.output.trans h.output, Nat.le_trans h.size k.size, fun i hi hr => (k.block i (Nat.lt_of_lt_of_le hi h.size) hr).trans (h.block i hi hr)⟩
theorem CmpOk.later {fk : Nat} {caps : Array Value} {cf : Nat → Nat → Int} {N g : Nat} {w W : World} (h : CmpOk fk caps cf N g w) (hg : w.grownBy W (some g)) : CmpOk fk caps cf N g W :=
  ⟨h.enter, fun W1 x y hW hx hy => h.call W1 x y (gr_trans hg hW) hx hy⟩
theorem ins_calls' {fk : Nat} {caps : Array Value} {cf : Nat → Nat → Int} {N g : Nat} {w : World} (hc : CmpOk fk caps cf N g w) (cap a b : Nat) (xs : List Nat)
    (hh : HoldI w g xs) (hab : a ≤ b) (hb : b ≤ xs.length) (hsz : xs.length < 4611686018427387904) (hx : ∀ x ∈ xs, x < N) :
    Calls Try.prog 114 #[.slice (some ⟨g, 0, none⟩) xs.length cap, .int .i64 a, .int .i64 b, .func (.func fk) #[] caps] w fun e w' => e = .returned (.tuple #[]) ∧ w.grownBy w' (some g) ∧ HoldI w' g (insS cf a b xs) :=
  ins_calls fk caps cf N g cap a b xs w hh hab hb hsz hx hc.enter hc.call
set_option maxHeartbeats 4000000 in
set_option maxRecDepth 100000 in
theorem stable_small {fk : Nat} {caps : Array Value} {cf : Nat → Nat → Int} {N g : Nat} {w : World} (hc : CmpOk fk caps cf N g w) (cap : Nat) (xs : List Nat)
    (hh : HoldI w g xs) (hsz : xs.length < 20) (hx : ∀ x ∈ xs, x < N) :
    Calls Try.prog 113 #[.slice (some ⟨g, 0, none⟩) xs.length cap, .int .i64 xs.length, .func (.func fk) #[] caps] w fun e w' => e = .returned (.tuple #[]) ∧ w.grownBy w' (some g) ∧ HoldI w' g (insS cf 0 xs.length xs) := by
  have HI := Aside0.mk (ins_calls' hc cap 0 xs.length xs hh (Nat.zero_le _) (Nat.le_refl _) (by omega) hx)
  have c1 : decide ((20 : Int) ≤ (xs.length : Int)) = false := decide_eq_false (by omega)
  have c2 : decide ((20 : Int) < (xs.length : Int)) = false := decide_eq_false (by omega)
  have c3 : ¬ 20 ≤ xs.length := by omega
  have c4 : ¬ 20 < xs.length := by omega
  clear hc hh hx
  go_enter Try.func113, Try.ntmps113
  go_wp2
  refine wp_loop_rounds 1 ?_
  rw [rounds_succ]
  go_wp2_with fail
  refine HI.out.mono ?_
  rintro e w1 ⟨rfl, hg, hh⟩
  have HG := Aside0.mk hg
  have HH := Aside0.mk hh
  clear hg hh
  go_wp2
  refine wp_loop_rounds 1 ?_
  rw [rounds_succ]
  go_wp2
  go_end0
  exact ⟨rfl, HG.out, HH.out⟩
set_option maxHeartbeats 4000000 in
set_option maxRecDepth 100000 in
theorem sortfunc_small {fk : Nat} {caps : Array Value} {cf : Nat → Nat → Int} {N g : Nat} {w : World} (hc : CmpOk fk caps cf N g w) (cap : Nat) (xs : List Nat)
    (hh : HoldI w g xs) (hsz : xs.length < 20) (hx : ∀ x ∈ xs, x < N) :
    Calls Try.prog 94 #[.slice (some ⟨g, 0, none⟩) xs.length cap, .func (.func fk) #[] caps] w fun e w' => e = .returned (.tuple #[]) ∧ w.grownBy w' (some g) ∧ HoldI w' g (insS cf 0 xs.length xs) := by
  have HI := Aside0.mk (stable_small hc cap xs hh hsz hx)
  clear hc hh hx
  go_enter Try.func94, Try.ntmps94
  go_wp2_with fail
  refine HI.out.mono ?_
  rintro e w1 ⟨rfl, hg, hh⟩
  have HG := Aside0.mk hg
  have HH := Aside0.mk hh
  clear hg hh
  go_wp2
  go_end0
  exact ⟨rfl, HG.out, HH.out⟩
end Go.Proofs.Ythghflgmeepnlaa.Pa
end
section
namespace Go.Proofs.Ythghflgmeepnlaa.Pa
open Go.RowKit Go.Proofs.YthghflgmeepnlaaW.PrintWords Go.Proofs.YthghflgmeepnlaaW.PrintLast Go.Proofs.YthghflgmeepnlaaW.PrintMore
set_option linter.unusedVariables false
set_option linter.unusedSimpArgs false
theorem set_mid {α : Type} (A B : List α) (x y : α) : (A ++ x :: B).set A.length y = A ++ y :: B := by simp
theorem get_mid {α : Type} (A B : List α) (x : α) : (A ++ x :: B)[A.length]? = some x := by simp
theorem wrap_sum {x y z : Nat} (h : z = x + y) (hz : z < 4611686018427387904) : wrap64 ((x : Int) + (y : Int)) = (z : Int) := by unfold wrap64; omega
theorem wrap_sumK {x y z : Nat} (h : z = x + y) (hz : z < 4611686018427387904) : IntKind.i64.wrap ((x : Int) + (y : Int)) = (z : Int) := by rw [IntKind.wrap_i64]; omega
theorem wrap_one {x : Nat} (hz : x < 4611686018427387904) : wrap64 ((x : Int) + 1) = ((x + 1 : Nat) : Int) := by unfold wrap64; omega
theorem wrap_dif {x y z : Nat} (h : x = z + y) (hz : x < 4611686018427387904) : wrap64 ((x : Int) - (y : Int)) = (z : Int) := by unfold wrap64; omega
theorem wrap_difK {x y z : Nat} (h : x = z + y) (hz : x < 4611686018427387904) : IntKind.i64.wrap ((x : Int) - (y : Int)) = (z : Int) := by rw [IntKind.wrap_i64]; omega
set_option maxHeartbeats 8000000 in
set_option maxRecDepth 1000000 in
theorem swapR_calls (g cap a b n L : Nat) (P X Q Y R : List Nat) (fv : Value) (w : World) (hh : HoldI w g (P ++ (X ++ (Q ++ (Y ++ R))))) (hxy : Y.length = X.length)
    (ha : a = P.length) (hb : b = P.length + X.length + Q.length) (hn : n = X.length) (hL : L = (P ++ (X ++ (Q ++ (Y ++ R)))).length) (hsz : L < 4611686018427387904) :
    Calls Try.prog 117 #[.slice (some ⟨g, 0, none⟩) L cap, .int .i64 a, .int .i64 b, .int .i64 n, fv] w fun e w' => e = .returned (.tuple #[]) ∧ w.grownBy w' (some g) ∧ HoldI w' g (P ++ (Y ++ (Q ++ (X ++ R)))) := by
  have HH := Aside0.mk hh
  have HG := Aside0.mk (show w.grownBy w (some g) from ⟨rfl, rfl, rfl, Nat.le_refl _, fun _ _ _ => rfl⟩)
  have hL2 : L = a + n + Q.length + n + R.length := by rw [hL]; simp; omega
  have hb2 : b = a + n + Q.length := by omega
  clear hh hL
  go_enter Try.func117, Try.ntmps117
  go_wp2
  go_loopg [10] n (fun kq vi wr => ∃ (i : Nat) (X1 X2 Y1 Y2 : List Nat), vi = .int .i64 (i : Int) ∧ i + kq = n ∧ Aside0 (X = X1 ++ X2 ∧ Y = Y1 ++ Y2 ∧ X1.length = i ∧ Y1.length = i) ∧ Aside0 (HoldI wr g (P ++ (Y1 ++ (X2 ++ (Q ++ (X1 ++ (Y2 ++ R))))))) ∧ Aside0 (w.grownBy wr (some g)))
  case atStart => exact ⟨0, [], X, [], Y, rfl, by omega, ⟨rfl, rfl, rfl, rfl⟩, HH, HG⟩
  case round =>
    clear HH HG
    obtain ⟨i, X1, X2, Y1, Y2, rfl, hi, HE, HH, HG⟩ := hrel
    by_cases hlt : i < n
    · have hltz : (i : Int) < (n : Int) := by omega
      obtain ⟨k1, rfl⟩ : ∃ k1, gk = k1 + 1 := ⟨gk - 1, by omega⟩
      obtain ⟨hX, hY, hX1, hY1⟩ := HE.out
      have hlX : X.length = X1.length + X2.length := by rw [hX]; simp
      have hlY : Y.length = Y1.length + Y2.length := by rw [hY]; simp
      obtain ⟨x, X3, eX⟩ : ∃ x X3, X2 = x :: X3 := by
        cases X2 with
        | nil => simp at hlX; omega
        | cons x X3 => exact ⟨x, X3, rfl⟩
      obtain ⟨y, Y3, eY⟩ : ∃ y Y3, Y2 = y :: Y3 := by
        cases Y2 with
        | nil => simp at hlY; omega
        | cons y Y3 => exact ⟨y, Y3, rfl⟩
      subst eX
      subst eY
      simp only [List.length_cons] at hlX hlY
      have eq1 : P ++ (Y1 ++ (x :: X3 ++ (Q ++ (X1 ++ (y :: Y3 ++ R))))) = (P ++ Y1) ++ x :: (X3 ++ (Q ++ (X1 ++ (y :: (Y3 ++ R))))) := by simp
      have eq2 : P ++ (Y1 ++ (x :: X3 ++ (Q ++ (X1 ++ (y :: Y3 ++ R))))) = (P ++ (Y1 ++ (x :: (X3 ++ (Q ++ X1))))) ++ y :: (Y3 ++ R) := by simp
      have eq3 : (P ++ Y1) ++ y :: (X3 ++ (Q ++ (X1 ++ (y :: (Y3 ++ R))))) = (P ++ (Y1 ++ (y :: (X3 ++ (Q ++ X1))))) ++ y :: (Y3 ++ R) := by simp
      obtain ⟨pa, hpa⟩ : ∃ pa, pa = a + i := ⟨_, rfl⟩
      obtain ⟨pb, hpb⟩ : ∃ pb, pb = b + i := ⟨_, rfl⟩
      have la : (P ++ Y1).length = pa := by simp; omega
      have lb : (P ++ (Y1 ++ (x :: (X3 ++ (Q ++ X1))))).length = pb := by simp; omega
      have lb2 : (P ++ (Y1 ++ (y :: (X3 ++ (Q ++ X1))))).length = pb := by simp; omega
      have ga : (P ++ (Y1 ++ (x :: X3 ++ (Q ++ (X1 ++ (y :: Y3 ++ R))))))[pa]? = some x := by rw [eq1, ← la]; exact get_mid _ _ _
      have gb : (P ++ (Y1 ++ (x :: X3 ++ (Q ++ (X1 ++ (y :: Y3 ++ R))))))[pb]? = some y := by rw [eq2, ← lb]; exact get_mid _ _ _
      have ca := HH.out.cell ga
      have cb := HH.out.cell gb
      have fa := HH.out.free pa
      have fb := HH.out.free pb
      have s1 : (P ++ (Y1 ++ (x :: X3 ++ (Q ++ (X1 ++ (y :: Y3 ++ R)))))).set pa y = (P ++ (Y1 ++ (y :: (X3 ++ (Q ++ X1))))) ++ y :: (Y3 ++ R) := by rw [eq1, ← la, set_mid]; exact eq3
      have s2 : ((P ++ (Y1 ++ (y :: (X3 ++ (Q ++ X1))))) ++ y :: (Y3 ++ R)).set pb x = (P ++ (Y1 ++ (y :: (X3 ++ (Q ++ X1))))) ++ x :: (Y3 ++ R) := by rw [← lb2]; exact set_mid _ _ _ _
      have hs := HoldI.set (HoldI.set HH.out pa y) pb x
      rw [s1, s2] at hs
      clear s1 s2
      have HS := Aside0.mk hs
      have HGS := Aside0.mk (gr_set (j := pb) (gr_set (j := pa) HG.out (enN y)) (enN x))
      have HE' := Aside0.mk (show X = (X1 ++ [x]) ++ X3 ∧ Y = (Y1 ++ [y]) ++ Y3 ∧ (X1 ++ [x]).length = i + 1 ∧ (Y1 ++ [y]).length = i + 1 from ⟨by rw [hX]; simp, by rw [hY]; simp, by simp [hX1], by simp [hY1]⟩)
      have HSE := Aside0.mk (show (P ++ (Y1 ++ (y :: (X3 ++ (Q ++ X1))))) ++ x :: (Y3 ++ R) = P ++ ((Y1 ++ [y]) ++ (X3 ++ (Q ++ ((X1 ++ [x]) ++ (Y3 ++ R))))) by simp)
      clear eq1 eq2 eq3 la lb lb2 ga gb hs hX hY hX1 hY1
      have hpL : pa < L ∧ pb < L ∧ pa < pb ∧ i < 4611686018427387903 := by omega
      obtain ⟨hpaL, hpbL, hplt, hi63⟩ := hpL
      have wa : wrap64 ((a : Int) + (i : Int)) = (pa : Int) := wrap_sum hpa (Nat.lt_trans hpaL hsz)
      have wb : wrap64 ((b : Int) + (i : Int)) = (pb : Int) := wrap_sum hpb (Nat.lt_trans hpbL hsz)
      have wa' : IntKind.i64.wrap ((a : Int) + (i : Int)) = (pa : Int) := wrap_sumK hpa (Nat.lt_trans hpaL hsz)
      have wb' : IntKind.i64.wrap ((b : Int) + (i : Int)) = (pb : Int) := wrap_sumK hpb (Nat.lt_trans hpbL hsz)
      have za : (pa : Int) < (L : Int) := Int.ofNat_lt.2 hpaL
      have zb : (pb : Int) < (L : Int) := Int.ofNat_lt.2 hpbL
      have ya : (0 : Int) ≤ (pa : Int) := Int.natCast_nonneg _
      have yb : (0 : Int) ≤ (pb : Int) := Int.natCast_nonneg _
      have hne : pa ≠ pb := Nat.ne_of_lt hplt
      have HI' := Aside0.mk (show wrap64 ((i : Int) + 1) = ((i + 1 : Nat) : Int) from wrap_one (by omega))
      have HKI := Aside0.mk (show i + 1 + k1 = n by omega)
      have HNM := Aside0.mk (⟨ha, hb, hn, hL2, hb2, hsz, hxy⟩ : a = P.length ∧ b = P.length + X.length + Q.length ∧ n = X.length ∧ L = a + n + Q.length + n + R.length ∧ b = a + n + Q.length ∧ L < 4611686018427387904 ∧ Y.length = X.length)
      clear hlX hlY hpa hpb hpaL hpbL hplt hi63 ha hb hn hL2 hb2 hxy hi hlt
      go_wp2_with fail
      go_region
      all_goals go_wp2
      go_roundg k1
      case measure => omega
      case rel => exact ⟨i + 1, X1 ++ [x], X3, Y1 ++ [y], Y3, by first | rw [HI'.out] | rfl | go_num, HKI.out, HE', ⟨by rw [← HSE.out]; first | exact HS.out | exact HS.out.drew⟩, ⟨by first | exact HGS.out | exact gr_drew HGS.out⟩⟩
    · have hltz : ¬ (i : Int) < (n : Int) := by omega
      have hfin : P ++ (Y1 ++ (X2 ++ (Q ++ (X1 ++ (Y2 ++ R))))) = P ++ (Y ++ (Q ++ (X ++ R))) := by
        obtain ⟨hX, hY, hX1, hY1⟩ := HE.out
        have hlX : X.length = X1.length + X2.length := by rw [hX]; simp
        have hlY : Y.length = Y1.length + Y2.length := by rw [hY]; simp
        have e1 : X2 = [] := List.eq_nil_of_length_eq_zero (by omega)
        have e2 : Y2 = [] := List.eq_nil_of_length_eq_zero (by omega)
        rw [hX, hY, e1, e2]; simp
      have HF := Aside0.mk (hfin ▸ HH.out)
      clear hfin
      go_wp2
      go_end0
      exact ⟨rfl, HG.out, HF.out⟩
end Go.Proofs.Ythghflgmeepnlaa.Pa
end
section
namespace Go.Proofs.Ythghflgmeepnlaa.Pa
open Go.RowKit Go.Proofs.YthghflgmeepnlaaW.PrintWords Go.Proofs.YthghflgmeepnlaaW.PrintLast Go.Proofs.YthghflgmeepnlaaW.PrintMore
set_option linter.unusedVariables false
set_option linter.unusedSimpArgs false
theorem bnd1 {p a i j b r L m s : Nat} (h1 : p + a + i = m) (h2 : p + a + i + j + b + r = L) (h3 : L < 1000000000) (hs : s = m + j) : s < 4611686018427387904 := by omega
theorem dif1 {m j i d s q : Nat} (hs : s = m + j) (hq : q = m + d) (hd : d = j - i) (h : i < j) : s = q + i := by omega
set_option maxHeartbeats 8000000 in
set_option maxRecDepth 1000000 in
theorem rot_calls (g cap a m b L : Nat) (P X Y R : List Nat) (fv : Value) (w : World) (hh : HoldI w g (P ++ (X ++ (Y ++ R)))) (ha : a = P.length) (hm : m = P.length + X.length) (hb : b = m + Y.length)
    (hX : 0 < X.length) (hY : 0 < Y.length) (hL : L = (P ++ (X ++ (Y ++ R))).length) (hsz : L < 1000000000) :
    Calls Try.prog 116 #[.slice (some ⟨g, 0, none⟩) L cap, .int .i64 a, .int .i64 m, .int .i64 b, fv] w fun e w' => e = .returned (.tuple #[]) ∧ w.grownBy w' (some g) ∧ HoldI w' g (P ++ (Y ++ (X ++ R))) := by
  have HH := Aside0.mk hh
  have HG := Aside0.mk (show w.grownBy w (some g) from ⟨rfl, rfl, rfl, Nat.le_refl _, fun _ _ _ => rfl⟩)
  have HL := Aside0.mk (show L = P.length + X.length + Y.length + R.length by rw [hL]; simp; omega)
  have HM := Aside0.mk hm
  have HSZ := Aside0.mk hsz
  have HX := Aside0.mk (⟨hX, hY⟩ : 0 < X.length ∧ 0 < Y.length)
  have w1 : wrap64 ((m : Int) - (a : Int)) = (X.length : Int) := wrap_dif (by omega) (by have := HL.out; omega)
  have w2 : wrap64 ((b : Int) - (m : Int)) = (Y.length : Int) := wrap_dif (by omega) (by have := HL.out; omega)
  have w1' : IntKind.i64.wrap ((m : Int) - (a : Int)) = (X.length : Int) := wrap_difK (by omega) (by have := HL.out; omega)
  have w2' : IntKind.i64.wrap ((b : Int) - (m : Int)) = (Y.length : Int) := wrap_difK (by omega) (by have := HL.out; omega)
  clear hh hL hb ha hm hX hY hsz
  go_enter Try.func116, Try.ntmps116
  go_wp2
  clear w1 w2 w1' w2'
  go_loopg [10, 11] (X.length + Y.length) (fun kq v10 v11 wr => ∃ (i j : Nat) (X1 Y1 A B : List Nat), v10 = .int .i64 (i : Int) ∧ v11 = .int .i64 (j : Int) ∧ Aside0 (i = X1.length ∧ j = Y1.length ∧ 0 < i ∧ 0 < j ∧ i + j ≤ kq) ∧ Aside0 (P.length + A.length + i = m) ∧ Aside0 (A ++ (Y1 ++ (X1 ++ B)) = Y ++ X) ∧ Aside0 (HoldI wr g (P ++ (A ++ (X1 ++ (Y1 ++ (B ++ R)))))) ∧ Aside0 (w.grownBy wr (some g)))
  case atStart => exact ⟨_, _, X, Y, [], [], rfl, rfl, ⟨rfl, rfl, HX.out.1, HX.out.2, Nat.le_refl _⟩, ⟨by have := HM.out; simp; omega⟩, ⟨by simp⟩, ⟨by simpa using HH.out⟩, HG⟩
  case round =>
    clear HH HG
    obtain ⟨i, j, X1, Y1, A, B, rfl, rfl, HI, HA, HE, HH, HG⟩ := hrel
    have HLN := Aside0.mk (show P.length + A.length + i + j + B.length + R.length = L by
      have h1 := congrArg List.length HE.out
      have h2 := HL.out
      have h3 := HI.out
      simp at h1
      omega)
    obtain ⟨pa, hpa⟩ : ∃ pa, pa = P.length + A.length := ⟨_, rfl⟩
    have HPA := Aside0.mk hpa
    have d1 : wrap64 ((m : Int) - (i : Int)) = (pa : Int) := wrap_dif (by have := HA.out; omega) (by have h1 := HA.out; have h2 := HLN.out; have h3 := HSZ.out; omega)
    have d1' : IntKind.i64.wrap ((m : Int) - (i : Int)) = (pa : Int) := wrap_difK (by have := HA.out; omega) (by have h1 := HA.out; have h2 := HLN.out; have h3 := HSZ.out; omega)
    clear hpa
    by_cases cij : i = j
    · subst cij
      have k1 : HoldI wr g ((P ++ A) ++ (X1 ++ ([] ++ (Y1 ++ (B ++ R))))) := by
        rw [show (P ++ A) ++ (X1 ++ ([] ++ (Y1 ++ (B ++ R)))) = P ++ (A ++ (X1 ++ (Y1 ++ (B ++ R)))) by simp]
        exact HH.out
      have k2 : Y1.length = X1.length := by have := HI.out; omega
      have k3 : pa = (P ++ A).length := by rw [HPA.out, List.length_append]
      have k4 : m = (P ++ A).length + X1.length + ([] : List Nat).length := by rw [List.length_append]; have h1 := HA.out; have h2 := HI.out; show m = P.length + A.length + X1.length + 0; omega
      have k5 : L = ((P ++ A) ++ (X1 ++ ([] ++ (Y1 ++ (B ++ R))))).length := by
        simp only [List.length_append, List.length_nil]
        have h1 := HLN.out
        have h2 := HI.out
        omega
      have HC := Aside0.mk (swapR_calls g cap pa m i L (P ++ A) X1 [] Y1 (B ++ R) fv wr k1 k2 k3 k4 HI.out.1 k5 (Nat.lt_trans HSZ.out (by decide)))
      clear k1 k2 k3 k4 k5
      have hfin := Aside0.mk (show (P ++ A) ++ (Y1 ++ ([] ++ (X1 ++ (B ++ R)))) = P ++ (Y ++ (X ++ R)) by
        have h := HE.out
        have e : (P ++ A) ++ (Y1 ++ ([] ++ (X1 ++ (B ++ R)))) = P ++ ((A ++ (Y1 ++ (X1 ++ B))) ++ R) := by simp
        rw [e, h]; simp)
      go_wp2_with fail
      refine HC.out.mono ?_
      rintro e w2 ⟨rfl, hg, hh⟩
      rw [hfin.out] at hh
      have HH2 := Aside0.mk hh
      have HG2 := Aside0.mk (gr_trans HG.out hg)
      clear hg hh
      go_wp2
      go_end0
      exact ⟨rfl, HG2.out, HH2.out⟩
    · have nij : ((i : Int) != (j : Int)) = true := bne_iff_ne.mpr (by omega)
      have nij2 : ¬ (i : Int) = (j : Int) := by omega
      obtain ⟨k1, rfl⟩ : ∃ k1, gk = k1 + 1 := ⟨gk - 1, by have := HI.out; omega⟩
      by_cases cgt : j < i
      · have cg1 : decide ((i : Int) > (j : Int)) = true := decide_eq_true (by omega)
        have cg2 : (j : Int) < (i : Int) := by omega
        obtain ⟨d, hd⟩ : ∃ d, d = i - j := ⟨_, rfl⟩
        have d2 : wrap64 ((i : Int) - (j : Int)) = (d : Int) := wrap_dif (by omega) (by have h2 := HLN.out; have h3 := HSZ.out; omega)
        have d2' : IntKind.i64.wrap ((i : Int) - (j : Int)) = (d : Int) := wrap_difK (by omega) (by have h2 := HLN.out; have h3 := HSZ.out; omega)
        have HD := Aside0.mk (⟨hd, cgt⟩ : d = i - j ∧ j < i)
        have eX : X1 = X1.take j ++ X1.drop j := (List.take_append_drop j X1).symm
        have lt : (X1.take j).length = j := by rw [List.length_take]; have := HI.out; omega
        have ld : (X1.drop j).length = d := by rw [List.length_drop]; have := HI.out; omega
        obtain ⟨U, hU⟩ : ∃ U, U = X1.take j := ⟨_, rfl⟩
        obtain ⟨V, hV⟩ : ∃ V, V = X1.drop j := ⟨_, rfl⟩
        rw [← hU, ← hV] at eX
        rw [← hU] at lt
        rw [← hV] at ld
        have HH1 := HH.out
        have HE1 := HE.out
        rw [eX] at HH1 HE1
        have k1 : HoldI wr g ((P ++ A) ++ (U ++ (V ++ (Y1 ++ (B ++ R))))) := by
          rw [show (P ++ A) ++ (U ++ (V ++ (Y1 ++ (B ++ R)))) = P ++ (A ++ ((U ++ V) ++ (Y1 ++ (B ++ R)))) by simp]
          exact HH1
        have k2 : Y1.length = U.length := by have := HI.out; omega
        have k3 : pa = (P ++ A).length := by rw [HPA.out, List.length_append]
        have k4 : m = (P ++ A).length + U.length + V.length := by rw [List.length_append]; have h1 := HA.out; have h2 := HI.out; omega
        have k5 : L = ((P ++ A) ++ (U ++ (V ++ (Y1 ++ (B ++ R))))).length := by
          simp only [List.length_append]
          have h1 := HLN.out
          have h2 := HI.out
          omega
        have HC := Aside0.mk (swapR_calls g cap pa m j L (P ++ A) U V Y1 (B ++ R) fv wr k1 k2 k3 k4 lt.symm k5 (Nat.lt_trans HSZ.out (by decide)))
        clear k1 k2 k3 k4 k5
        have HEN := Aside0.mk (show (A ++ Y1) ++ (U ++ (V ++ B)) = Y ++ X by rw [← HE1]; simp)
        have HHN := Aside0.mk (show (P ++ A) ++ (Y1 ++ (V ++ (U ++ (B ++ R)))) = P ++ ((A ++ Y1) ++ (V ++ (U ++ (B ++ R)))) by simp)
        have LU := Aside0.mk (⟨lt, ld⟩ : U.length = j ∧ V.length = d)
        clear hU hV eX lt ld HH1 HE1 hd cgt cij
        go_wp2_with fail
        refine HC.out.mono ?_
        rintro e w2 ⟨rfl, hg, hh⟩
        rw [HHN.out] at hh
        have HH2 := Aside0.mk hh
        have HG2 := Aside0.mk (gr_trans HG.out hg)
        clear hg hh
        go_wp2
        go_roundg k1
        case measure => omega
        case rel => exact ⟨d, j, V, U, A ++ Y1, B, rfl, rfl, ⟨LU.out.2.symm, LU.out.1.symm, by have := HD.out; omega, HI.out.2.2.2.1, by have h1 := HD.out; have h2 := HI.out; omega⟩, ⟨by have h1 := HD.out; have h2 := HI.out; have h3 := HA.out; rw [List.length_append]; omega⟩, HEN, HH2, HG2⟩
      · have clt : i < j := by omega
        have cg1 : decide ((i : Int) > (j : Int)) = false := decide_eq_false (by omega)
        have cg2 : ¬ (j : Int) < (i : Int) := by omega
        obtain ⟨d, hd⟩ : ∃ d, d = j - i := ⟨_, rfl⟩
        obtain ⟨s, hs⟩ : ∃ s, s = m + j := ⟨_, rfl⟩
        obtain ⟨q, hq⟩ : ∃ q, q = m + d := ⟨_, rfl⟩
        have HD := Aside0.mk (⟨hd, clt⟩ : d = j - i ∧ i < j)
        have eY : Y1 = Y1.take d ++ Y1.drop d := (List.take_append_drop d Y1).symm
        have lt : (Y1.take d).length = d := by rw [List.length_take]; have := HI.out; omega
        have ld : (Y1.drop d).length = i := by rw [List.length_drop]; have := HI.out; omega
        obtain ⟨U, hU⟩ : ∃ U, U = Y1.take d := ⟨_, rfl⟩
        obtain ⟨V, hV⟩ : ∃ V, V = Y1.drop d := ⟨_, rfl⟩
        rw [← hU, ← hV] at eY
        rw [← hU] at lt
        rw [← hV] at ld
        have HH1 := HH.out
        have HE1 := HE.out
        rw [eY] at HH1 HE1
        have k1 : HoldI wr g ((P ++ A) ++ (X1 ++ (U ++ (V ++ (B ++ R))))) := by
          rw [show (P ++ A) ++ (X1 ++ (U ++ (V ++ (B ++ R)))) = P ++ (A ++ (X1 ++ ((U ++ V) ++ (B ++ R)))) by simp]
          exact HH1
        have k2 : V.length = X1.length := by have := HI.out; omega
        have k3 : pa = (P ++ A).length := by rw [HPA.out, List.length_append]
        have k4 : q = (P ++ A).length + X1.length + U.length := by rw [List.length_append]; have h1 := HA.out; have h2 := HI.out; omega
        have k5 : L = ((P ++ A) ++ (X1 ++ (U ++ (V ++ (B ++ R))))).length := by
          simp only [List.length_append]
          have h1 := HLN.out
          have h2 := HI.out
          omega
        have HC := Aside0.mk (swapR_calls g cap pa q i L (P ++ A) X1 U V (B ++ R) fv wr k1 k2 k3 k4 HI.out.1 k5 (Nat.lt_trans HSZ.out (by decide)))
        clear k1 k2 k3 k4 k5
        have HEN := Aside0.mk (show A ++ (U ++ (V ++ (X1 ++ B))) = Y ++ X by rw [← HE1]; simp)
        have HHN := Aside0.mk (show (P ++ A) ++ (V ++ (U ++ (X1 ++ (B ++ R)))) = P ++ (A ++ (V ++ (U ++ ((X1 ++ B) ++ R)))) by simp)
        have LU := Aside0.mk (⟨lt, ld⟩ : U.length = d ∧ V.length = i)
        clear hU hV eY lt ld HH1 HE1
        have d2 : wrap64 ((j : Int) - (i : Int)) = (d : Int) := wrap_dif (by omega) (by have h2 := HLN.out; have h3 := HSZ.out; omega)
        have d2' : IntKind.i64.wrap ((j : Int) - (i : Int)) = (d : Int) := wrap_difK (by omega) (by have h2 := HLN.out; have h3 := HSZ.out; omega)
        have hsb := bnd1 HA.out HLN.out HSZ.out hs
        have hsq := dif1 hs hq hd clt
        have d3 : wrap64 ((m : Int) + (j : Int)) = (s : Int) := wrap_sum hs hsb
        have d3' : IntKind.i64.wrap ((m : Int) + (j : Int)) = (s : Int) := wrap_sumK hs hsb
        have d4 : wrap64 ((s : Int) - (i : Int)) = (q : Int) := wrap_dif hsq hsb
        have d4' : IntKind.i64.wrap ((s : Int) - (i : Int)) = (q : Int) := wrap_difK hsq hsb
        clear hsb hsq
        clear hd clt cgt cij hs hq
        go_wp2_with fail
        refine HC.out.mono ?_
        rintro e w2 ⟨rfl, hg, hh⟩
        rw [HHN.out] at hh
        have HH2 := Aside0.mk hh
        have HG2 := Aside0.mk (gr_trans HG.out hg)
        clear hg hh
        go_wp2
        go_roundg k1
        case measure => omega
        case rel => exact ⟨i, d, V, U, A, X1 ++ B, rfl, rfl, ⟨LU.out.2.symm, LU.out.1.symm, HI.out.2.2.1, by have := HD.out; omega, by have h1 := HD.out; have h2 := HI.out; omega⟩, HA, HEN, HH2, HG2⟩
end Go.Proofs.Ythghflgmeepnlaa.Pa
end
section
namespace Go.Proofs.Ythghflgmeepnlaa.Pa
set_option linter.unusedVariables false
set_option linter.unusedSimpArgs false
/-- What a comparison of places must be. -/
structure OrdP (cf : Nat → Nat → Int) : Prop where
  anti : ∀ x y, cf x y = - cf y x
  trans : ∀ x y z, cf x y ≤ 0 → cf y z ≤ 0 → cf x z ≤ 0
/-- Ahead of: less, or equal and the smaller place. -/
def ltP (cf : Nat → Nat → Int) (x y : Nat) : Prop := cf x y < 0 ∨ (cf x y = 0 ∧ x < y)
theorem OrdP.strict {cf : Nat → Nat → Int} (h : OrdP cf) {x y z : Nat} (h1 : cf x y < 0) (h2 : cf y z ≤ 0) : cf x z < 0 := by
  have h3 := h.trans x y z (by omega) h2
  rcases Int.lt_or_eq_of_le h3 with h4 | h4
  · exact h4
  · have h5 := h.anti x z
    have h6 := h.trans y z x h2 (by omega)
    have := h.anti x y
    omega
theorem OrdP.strict' {cf : Nat → Nat → Int} (h : OrdP cf) {x y z : Nat} (h1 : cf x y ≤ 0) (h2 : cf y z < 0) : cf x z < 0 := by
  have h3 := h.trans x y z h1 (by omega)
  rcases Int.lt_or_eq_of_le h3 with h4 | h4
  · exact h4
  · have h5 := h.anti x z
    have h6 := h.trans z x y (by omega) h1
    have := h.anti y z
    omega
theorem ltP_trans {cf : Nat → Nat → Int} (h : OrdP cf) {x y z : Nat} (h1 : ltP cf x y) (h2 : ltP cf y z) : ltP cf x z := by
  rcases h1 with h1 | ⟨h1, g1⟩
  · rcases h2 with h2 | ⟨h2, g2⟩
    · exact .inl (h.strict h1 (by omega))
    · exact .inl (h.strict h1 (by omega))
  · rcases h2 with h2 | ⟨h2, g2⟩
    · exact .inl (h.strict' (by omega) h2)
    · have h3 := h.trans x y z (by omega) (by omega)
      have a1 := h.anti x y
      have a2 := h.anti y z
      have h4 := h.trans z y x (by omega) (by omega)
      have a3 := h.anti x z
      exact .inr ⟨by omega, by omega⟩
theorem ltP_forth {cf : Nat → Nat → Int} (h : OrdP cf) {x y : Nat} (hxy : x < y) (hn : ¬ cf y x < 0) : ltP cf x y := by
  have := h.anti x y
  rcases Int.lt_trichotomy (cf x y) 0 with q | q | q
  · exact .inl q
  · exact .inr ⟨q, hxy⟩
  · omega
theorem ltP_asymm {cf : Nat → Nat → Int} (h : OrdP cf) {x y : Nat} (h1 : ltP cf x y) (h2 : ltP cf y x) : False := by
  have := h.anti x y
  rcases h1 with h1 | ⟨h1, g1⟩ <;> rcases h2 with h2 | ⟨h2, g2⟩ <;> omega
theorem pw_take_drop {R : Nat → Nat → Prop} {l : List Nat} (h : l.Pairwise R) (u : Nat) : (l.take u).Pairwise R ∧ (l.drop u).Pairwise R ∧ ∀ x ∈ l.take u, ∀ y ∈ l.drop u, R x y := by
  have e := List.take_append_drop u l
  rw [← e] at h
  exact List.pairwise_append.1 h
/-- What a boundary says of all. -/
theorem split_ok {cf : Nat → Nat → Int} (h : OrdP cf) {X Y : List Nat} (hX : X.Pairwise (ltP cf)) (hY : Y.Pairwise (ltP cf)) (u v : Nat) (hu : u ≤ X.length) (hv : v ≤ Y.length)
    (b1 : u = 0 ∨ v = Y.length ∨ ∃ x y, X[u - 1]? = some x ∧ Y[v]? = some y ∧ ltP cf x y) : ∀ x ∈ X.take u, ∀ y ∈ Y.drop v, ltP cf x y := by
  intro x hx y hy
  rcases b1 with b1 | b1 | ⟨x0, y0, e1, e2, h0⟩
  · subst b1; simp at hx
  · subst b1; simp at hy
  · have hu1 : u - 1 < X.length := (List.getElem?_eq_some_iff.1 e1).1
    have hv1 : v < Y.length := (List.getElem?_eq_some_iff.1 e2).1
    have hxx : x = x0 ∨ ltP cf x x0 := by
      obtain ⟨i, hi, rfl⟩ := List.getElem_of_mem hx
      rw [List.length_take] at hi
      rw [List.getElem_take]
      have e3 := (List.getElem?_eq_some_iff.1 e1).2
      rcases Nat.lt_or_ge i (u - 1) with q | q
      · right
        rw [← e3]
        exact List.pairwise_iff_getElem.1 hX i (u - 1) (by omega) hu1 q
      · left
        have : i = u - 1 := by omega
        subst this
        exact e3
    have hyy : y = y0 ∨ ltP cf y0 y := by
      rw [List.drop_eq_getElem_cons hv1] at hy
      have e3 := (List.getElem?_eq_some_iff.1 e2).2
      rcases List.mem_cons.1 hy with q | q
      · left; rw [q]; exact e3
      · right
        have h3 := (pw_take_drop hY v).2.1
        rw [List.drop_eq_getElem_cons hv1, List.pairwise_cons] at h3
        rw [← e3]
        exact h3.1 y q
    rcases hxx with rfl | hxx <;> rcases hyy with rfl | hyy
    · exact h0
    · exact ltP_trans h h0 hyy
    · exact ltP_trans h hxx h0
    · exact ltP_trans h (ltP_trans h hxx h0) hyy
/-- The two halves' halves, merged each, stand one behind the other. -/
theorem merge_ok {cf : Nat → Nat → Int} {X1 X2 Y1 Y2 Z1 Z2 : List Nat} (hX : (X1 ++ X2).Pairwise (ltP cf)) (hY : (Y1 ++ Y2).Pairwise (ltP cf)) (h12 : ∀ x ∈ X1, ∀ y ∈ Y2, ltP cf x y) (h21 : ∀ y ∈ Y1, ∀ x ∈ X2, ltP cf y x)
    (p1 : Z1.Perm (X1 ++ Y1)) (p2 : Z2.Perm (X2 ++ Y2)) (s1 : Z1.Pairwise (ltP cf)) (s2 : Z2.Pairwise (ltP cf)) : (Z1 ++ Z2).Pairwise (ltP cf) ∧ (Z1 ++ Z2).Perm ((X1 ++ X2) ++ (Y1 ++ Y2)) := by
  have gX := (List.pairwise_append.1 hX).2.2
  have gY := (List.pairwise_append.1 hY).2.2
  refine ⟨List.pairwise_append.2 ⟨s1, s2, fun a ha b hb => ?_⟩, ?_⟩
  · rcases List.mem_append.1 (p1.mem_iff.1 ha) with ha | ha <;> rcases List.mem_append.1 (p2.mem_iff.1 hb) with hb | hb
    · exact gX a ha b hb
    · exact h12 a ha b hb
    · exact h21 a ha b hb
    · exact gY a ha b hb
  · refine (p1.append p2).trans ?_
    rw [List.append_assoc, List.append_assoc]
    refine List.Perm.append_left X1 ?_
    rw [← List.append_assoc, ← List.append_assoc]
    exact List.Perm.append_right Y2 List.perm_append_comm
/-- One put between. -/
theorem put_ok {cf : Nat → Nat → Int} {U V : List Nat} {z : Nat} (h : (U ++ V).Pairwise (ltP cf)) (h1 : ∀ u ∈ U, ltP cf u z) (h2 : ∀ v ∈ V, ltP cf z v) : (U ++ z :: V).Pairwise (ltP cf) := by
  obtain ⟨a, b, c⟩ := List.pairwise_append.1 h
  refine List.pairwise_append.2 ⟨a, List.pairwise_cons.2 ⟨h2, b⟩, fun x hx y hy => ?_⟩
  rcases List.mem_cons.1 hy with rfl | hy
  · exact h1 x hx
  · exact c x hx y hy
/-- The list sorted so is one. -/
theorem sorted_one {cf : Nat → Nat → Int} (h : OrdP cf) : ∀ (l l' : List Nat), l.Pairwise (ltP cf) → l'.Pairwise (ltP cf) → l.Perm l' → l = l'
  | [], l', _, _, p => (List.nil_perm.1 p).symm
  | x :: l, l', s, s', p => by
    cases l' with
    | nil => exact absurd p.length_eq (by simp)
    | cons y l' =>
      have hx := List.pairwise_cons.1 s
      have hy := List.pairwise_cons.1 s'
      have e : x = y := by
        rcases List.mem_cons.1 (p.mem_iff.1 (List.mem_cons_self (a := x) (l := l))) with q | q
        · exact q
        · rcases List.mem_cons.1 (p.mem_iff.2 (List.mem_cons_self (a := y) (l := l'))) with r | r
          · exact r.symm
          · exact (ltP_asymm h (hx.1 y r) (hy.1 x q)).elim
      subst e
      rw [sorted_one h l l' hx.2 hy.2 (List.perm_cons x |>.1 p)]
end Go.Proofs.Ythghflgmeepnlaa.Pa
end
section
namespace Go.Proofs.Ythghflgmeepnlaa.Pa
set_option linter.unusedVariables false
set_option linter.unusedSimpArgs false
theorem getD_mid (A B : List Nat) (x : Nat) : (A ++ x :: B).getD A.length 0 = x := by simp [List.getD_eq_getElem?_getD]
theorem swp1_mid (A T : List Nat) (x y : Nat) : swp1 (A ++ x :: y :: T) A.length = A ++ y :: x :: T := by
  have e : A ++ x :: y :: T = (A ++ [x]) ++ y :: T := by simp
  have g1 : (A ++ x :: y :: T).getD A.length 0 = x := getD_mid A (y :: T) x
  have g2 : (A ++ x :: y :: T).getD (A.length + 1) 0 = y := by
    rw [e]
    simp
  unfold swp1
  rw [g1, g2, e]
  have s1 : ((A ++ [x]) ++ y :: T).set (A.length + 1) x = (A ++ [x]) ++ x :: T := by
    simp
  rw [s1]
  simp
theorem insIn_ok {cf : Nat → Nat → Int} (h : OrdP cf) (P : List Nat) (y : Nat) : ∀ (n : Nat) (S T : List Nat), S.length = n → S.Pairwise (ltP cf) → (∀ x ∈ S, x < y) →
    ∃ Z, Z.Perm (y :: S) ∧ Z.Pairwise (ltP cf) ∧ insIn cf P.length (P.length + n) (P ++ (S ++ (y :: T))) = P ++ (Z ++ T)
  | 0, S, T, hl, hs, hy => by
    have : S = [] := List.eq_nil_of_length_eq_zero hl
    subst this
    refine ⟨[y], List.Perm.refl _, by simp, ?_⟩
    cases hp : P.length with
    | zero => rw [Nat.zero_add, insIn]; simp
    | succ p => rw [Nat.add_zero, insIn, if_neg (fun q => by omega)]; simp
  | n + 1, S, T, hl, hs, hy => by
    obtain ⟨S', x, rfl⟩ : ∃ S' x, S = S' ++ [x] := by
      refine ⟨S.dropLast, S.getLast (by intro e; simp [e] at hl), ?_⟩
      exact (List.dropLast_concat_getLast _).symm
    have hl' : S'.length = n := by simp at hl; omega
    obtain ⟨hs1, _, hs2⟩ := List.pairwise_append.1 hs
    have hxy : x < y := hy x (by simp)
    have e0 : P ++ ((S' ++ [x]) ++ (y :: T)) = (P ++ S') ++ x :: y :: T := by simp
    have lPS : (P ++ S').length = P.length + n := by rw [List.length_append, hl']
    have g1 : (P ++ ((S' ++ [x]) ++ (y :: T))).getD (P.length + n) 0 = x := by rw [e0, ← lPS]; exact getD_mid _ _ _
    have g2 : (P ++ ((S' ++ [x]) ++ (y :: T))).getD (P.length + n + 1) 0 = y := by
      have e1 : P ++ ((S' ++ [x]) ++ (y :: T)) = (P ++ (S' ++ [x])) ++ y :: T := by simp
      have l1 : (P ++ (S' ++ [x])).length = P.length + n + 1 := by simp [hl']; omega
      rw [e1, ← l1]; exact getD_mid _ _ _
    rw [show P.length + (n + 1) = (P.length + n) + 1 by omega, insIn, g1, g2]
    by_cases c : cf y x < 0
    · rw [if_pos ⟨by omega, c⟩, e0, ← lPS, swp1_mid, lPS]
      obtain ⟨Z, p, s, e⟩ := insIn_ok h P y n S' (x :: T) hl' hs1 (fun z hz => hy z (List.mem_append_left _ hz))
      refine ⟨Z ++ [x], ?_, ?_, ?_⟩
      · refine (List.Perm.append_right [x] p).trans ?_
        simp
      · refine List.pairwise_append.2 ⟨s, by simp, fun z hz w hw => ?_⟩
        rw [List.mem_singleton.1 hw]
        rcases List.mem_cons.1 (p.mem_iff.1 hz) with rfl | hz
        · exact .inl c
        · exact hs2 z hz x (by simp)
      · have e2 : (P ++ S') ++ y :: x :: T = P ++ (S' ++ (y :: (x :: T))) := by simp
        rw [e2, e]; simp
    · rw [if_neg (fun q => c q.2)]
      have hxl := ltP_forth h hxy c
      refine ⟨(S' ++ [x]) ++ [y], ?_, ?_, by simp⟩
      · exact List.perm_append_comm
      · refine List.pairwise_append.2 ⟨hs, by simp, fun z hz w hw => ?_⟩
        rw [List.mem_singleton.1 hw]
        rcases List.mem_append.1 hz with hz | hz
        · exact ltP_trans h (hs2 z hz x (by simp)) hxl
        · rw [List.mem_singleton.1 hz]; exact hxl
theorem insOut_ok {cf : Nat → Nat → Int} (h : OrdP cf) (P R : List Nat) : ∀ (W S : List Nat), S.Pairwise (ltP cf) → W.Pairwise (· < ·) → (∀ x ∈ S, ∀ y ∈ W, x < y) →
    ∃ Z, Z.Perm (S ++ W) ∧ Z.Pairwise (ltP cf) ∧ insOut cf P.length W.length (P.length + S.length) (P ++ (S ++ (W ++ R))) = P ++ (Z ++ R)
  | [], S, hs, _, _ => ⟨S, by simp, hs, by simp [insOut]⟩
  | y :: W, S, hs, hw, hsw => by
    obtain ⟨Z, p, s, e⟩ := insIn_ok h P y S.length S (W ++ R) rfl hs (fun x hx => hsw x hx y (by simp))
    have hw' := List.pairwise_cons.1 hw
    have lZ : Z.length = S.length + 1 := by have := p.length_eq; simpa using this
    obtain ⟨Z2, p2, s2, e2⟩ := insOut_ok h P R W Z s hw'.2 (fun x hx w hw2 => by
      rcases List.mem_cons.1 (p.mem_iff.1 hx) with rfl | hx
      · exact hw'.1 w hw2
      · exact hsw x hx w (List.mem_cons_of_mem _ hw2))
    refine ⟨Z2, ?_, s2, ?_⟩
    · refine p2.trans ((List.Perm.append_right W p).trans ?_)
      show (y :: (S ++ W)).Perm _
      exact List.perm_middle.symm
    · show insOut cf P.length (W.length + 1) (P.length + S.length) (P ++ (S ++ (y :: (W ++ R)))) = _
      rw [insOut, e, show P.length + S.length + 1 = P.length + Z.length by omega]
      exact e2
/-- The places of a part, in order. -/
theorem insS_ok {cf : Nat → Nat → Int} (h : OrdP cf) (P X R : List Nat) (hX : X.Pairwise (· < ·)) : ∃ Z, Z.Perm X ∧ Z.Pairwise (ltP cf) ∧ insS cf P.length (P.length + X.length) (P ++ (X ++ R)) = P ++ (Z ++ R) := by
  unfold insS
  cases X with
  | nil => exact ⟨[], by simp, by simp, by simp [insOut]⟩
  | cons x W =>
    have hw := List.pairwise_cons.1 hX
    obtain ⟨Z, p, s, e⟩ := insOut_ok h P R W [x] (by simp) hw.2 (fun a ha y hy => by rw [List.mem_singleton.1 ha]; exact hw.1 y hy)
    refine ⟨Z, p, s, ?_⟩
    rw [show P.length + (x :: W).length - (P.length + 1) = W.length by simp; omega]
    exact e
/-- The whole, fewer than twenty. -/
theorem insS_all {cf : Nat → Nat → Int} (h : OrdP cf) (n : Nat) : (insS cf 0 n (List.range n)).Perm (List.range n) ∧ (insS cf 0 n (List.range n)).Pairwise (ltP cf) := by
  have hr : (List.range n).Pairwise (· < ·) := List.pairwise_lt_range
  obtain ⟨Z, p, s, e⟩ := insS_ok h [] (List.range n) [] hr
  have e' : insS cf 0 n (List.range n) = Z := by simpa using e
  rw [e']
  exact ⟨p, s⟩
end Go.Proofs.Ythghflgmeepnlaa.Pa
end
