-- Written by prn.py, a program of this session that drives the kit's print; not trusted: Lean checks it.
import Derived.Test.YthghflgmeepnlaaPax0
import Derived.Test.YthghflgmeepnlaaPaG0
import Derived.Test.YthghflgmeepnlaaPaG8
import Derived.Scope
namespace Go.Proofs.Ythghflgmeepnlaa.Pa
open Go.RowKit Go.Proofs.YthghflgmeepnlaaW.PrintWords Go.Proofs.YthghflgmeepnlaaW.PrintLast Go.Proofs.YthghflgmeepnlaaW.PrintMore
attribute [local go_sem] max2_int min2_int max_two min_two max_three min_three max_four min_four   -- for this text's walks alone
set_option linter.unusedVariables false
set_option linter.unusedSimpArgs false

theorem ret_straight {Q : Exit → Act → World → Prop} {a : Act} {w : World} (h : Q .ret a w) : Exit.noGoto Q .ret a w := h
/-! ### code_reader_text: function 112 -/
def code_reader_text.l0 : Nat → List Int → Int → ByteArray → Option (Int × Int × ByteArray × Int × ByteArray)
  | 0, _, _, _ => none
  | k + 1, x4, x5, x1000 => if x5 < (x1000.size : Int) then (if 0 ≤ x5 then (if (bt x1000 x5) = 0 then (if (wrap64 (x5 + 1)) = (x1000.size : Int) then ((value_Null.f).bind fun bt469 => (some (bt469.1, bt469.2.1, bt469.2.2, 10, x1000))) else (if 0 ≤ (wrap64 (x5 + 1)) then (if (wrap64 (x5 + 1)) < (x1000.size : Int) then (if (bt x1000 (wrap64 (x5 + 1))) = 255 then (if x4.length < 140737488355328 then (code_reader_text.l0 k (x4 ++ [0]) (wrap64 ((wrap64 (x5 + 1)) + 1)) x1000) else (none)) else (if (bt x1000 (wrap64 (x5 + 1))) = 0 then (if 0 ≤ (wrap64 ((wrap64 (x5 + 1)) + 1)) then (if (wrap64 ((wrap64 (x5 + 1)) + 1)) ≤ (x1000.size : Int) then (if (x4.length : Int) > 1000 then ((value_Null.f).bind fun bt475 => (some (bt475.1, bt475.2.1, bt475.2.2, 8, x1000.extract ((wrap64 ((wrap64 (x5 + 1)) + 1)) : Int).toNat x1000.size))) else ((value_Text.f (strOfNums x4)).bind fun bt478 => (some (bt478.1, bt478.2.1, bt478.2.2, 0, x1000.extract ((wrap64 ((wrap64 (x5 + 1)) + 1)) : Int).toNat x1000.size)))) else (none)) else (none)) else ((value_Null.f).bind fun bt481 => (some (bt481.1, bt481.2.1, bt481.2.2, 10, x1000))))) else (none)) else (none))) else (if x4.length < 140737488355328 then (code_reader_text.l0 k (x4 ++ [bt x1000 x5]) (wrap64 (x5 + 1)) x1000) else (none))) else (none)) else ((value_Null.f).bind fun bt463 => (some (bt463.1, bt463.2.1, bt463.2.2, 10, x1000)))
def code_reader_text.f (k : Nat) (s0_0 : ByteArray) : Option (Int × Int × ByteArray × Int × ByteArray) := code_reader_text.l0 k ([] : List Int) 0 s0_0
theorem code_reader_text.mono_l : ∀ k, (∀ y0 y1 y2, LeO (code_reader_text.l0 k y0 y1 y2) (code_reader_text.l0 (k + 1) y0 y1 y2))
  | 0 => fun _ _ _ r h => by simp [code_reader_text.l0] at h
  | k + 1 => by
    have ih0 := code_reader_text.mono_l k
    · intro y0 y1 y2
      unfold code_reader_text.l0
      repeat' first
      | (with_reducible exact ih0 _ _ _)
      | (with_reducible exact LeO.refl _)
      | (with_reducible exact LeO.none _)
      | (with_reducible refine LeO.ite ?_ ?_)
      | (with_reducible refine LeO.bind ?_ (fun _ => ?_))
      | exact ih0 _ _ _
      | exact LeO.none _
      | refine LeO.ite ?_ ?_
      | refine LeO.bind ?_ (fun _ => ?_)
theorem code_reader_text.mono : ∀ a0 k, LeO (code_reader_text.f k a0) (code_reader_text.f (k + 1) a0) := by
  intro a0 k
  have ih0 := code_reader_text.mono_l k
  unfold code_reader_text.f
  repeat' first
      | (with_reducible exact ih0 _ _ _)
      | (with_reducible exact LeO.refl _)
      | (with_reducible exact LeO.none _)
      | (with_reducible refine LeO.ite ?_ ?_)
      | (with_reducible refine LeO.bind ?_ (fun _ => ?_))
      | exact ih0 _ _ _
      | exact LeO.none _
      | refine LeO.ite ?_ ?_
      | refine LeO.bind ?_ (fun _ => ?_)
set_option maxHeartbeats 8000000 in
set_option maxRecDepth 100000 in
theorem code_reader_text.calls (k : Nat) (g : Nat) (s0_0 : ByteArray) (r1 : Int) (r2 : Int) (r3 : ByteArray) (r4 : Int) (r5 : ByteArray) (w0 w : World) (hI : IsS95 w0 w g s0_0) (hB : Below w0.heap.size w0 w) (h : code_reader_text.f k s0_0 = some (r1, r2, r3, r4, r5)) :
    Calls Try.prog 112 #[.pointer (some ⟨g, 0, none⟩)] w fun e w' => e = .returned (.tuple #[.agg #[.int .i64 r1, .int .i64 r2, .string r3], .int .i64 r4]) ∧ IsS95 w0 w' g r5 ∧ Below w0.heap.size w0 w' ∧ KeepBut w w' g none := by
  have hu33 := Try.underlying33
  have HI0 := Aside0.mk hI
  have HK := Aside0.mk (KeepBut.refl w g none)
  have HL := Aside0.mk hB.size
  clear hI
  have HW0 := Aside0.mk hB.size
  have HB := Aside0.mk hB
  clear hB
  have H : (code_reader_text.l0 k ([] : List Int) 0 s0_0) = some (r1, r2, r3, r4, r5) := h
  clear h
  have H' := Aside0.mk H
  clear H
  go_enter Try.func112, Try.ntmps112
  go_wp2_with (first | ((with_reducible refine gate_dst (N := 2) rfl ?_); refine box_event ?hg (N := 2) ?hd (cs := #[.int .i64 0, .int .i64 0, .string (⟨#[]⟩ : ByteArray)]) (t := 33) ?hr ?_; (case hd => rfl); (case hg => rfl); (case hr => first | (go_simp; done) | (go_simp; rfl)); intro gb462 hg w2 hbox hb; have n0_ := Aside0.mk (IsS95.below (by repeat (first | (with_reducible first | exact HI0.out | apply IsS95.alloc | apply IsS95.drewN | apply IsS95.drew | apply IsS95.set_0) | exact HI0.out)) hb); have n1_ := Aside0.mk (KeepBut.trans (by repeat (first | (with_reducible first | exact HK.out | apply KeepBut.set_ | apply keep_drewN | apply keep_drew | apply keep_alloc) | exact HK.out)) (KeepBut.of_below hb g none) (.inl rfl)); have n2_ := Aside0.mk (below_step (by repeat (first | (with_reducible first | exact HB.out | apply below_alloc | apply pw_below_drewN | apply below_drew1 | refine below_set ?_ (IsS95.ge HI0.out)) | exact HB.out)) hb); have n3_ := Aside0.mk (hbox); have n4_ := Aside0.mk ((by rw [hg]; exact (keep_size (w := w) (g := g) (row := none) (by repeat (first | (with_reducible first | exact HK.out | apply KeepBut.set_ | apply keep_drewN | apply keep_drew | apply keep_alloc) | exact HK.out))) : w.heap.size ≤ gb462)); have n5_ := Aside0.mk ((Nat.le_trans HW0.out (by rw [hg]; exact (keep_size (w := w) (g := g) (row := none) (by repeat (first | (with_reducible first | exact HK.out | apply KeepBut.set_ | apply keep_drewN | apply keep_drew | apply keep_alloc) | exact HK.out))) : w.heap.size ≤ gb462) : w0.heap.size ≤ gb462)); have n6_ := Aside0.mk ((by rw [hg]; exact Nat.ne_of_lt (IsS95.lt (show IsS95 w0 _ g s0_0 from by repeat (first | (with_reducible first | exact HI0.out | apply IsS95.alloc | apply IsS95.drewN | apply IsS95.drew | apply IsS95.set_0) | exact HI0.out))) : g ≠ gb462)); have n7_ := Aside0.mk ((by rw [hg]; exact Nat.ne_of_gt (IsS95.lt (show IsS95 w0 _ g s0_0 from by repeat (first | (with_reducible first | exact HI0.out | apply IsS95.alloc | apply IsS95.drewN | apply IsS95.drew | apply IsS95.set_0) | exact HI0.out))) : gb462 ≠ g)); clear HI0; clear HK; clear HB; have HI0 := n0_; have HK := n1_; have HB := n2_; have BK462 := n3_; have GW462 := n4_; have GE462 := n5_; have NB0_462 := n6_; have NB462_0 := n7_; clear n0_ n1_ n2_ n3_ n4_ n5_ n6_ n7_; clear hb hbox hg))
  refine wp_scope_straight ?_
  go_wp2
  refine wp_label ?_
  go_wp2
  go_loopg [4, 5] k (fun kq v4 v5 w' => ∃ (x4_1 : List Int) (x5_1 : Int) (x1000_1 : ByteArray) (x463000_1 : Int) (x463001_1 : Int) (x463002_1 : ByteArray), v5 = .int .i64 x5_1 ∧ Aside0 (code_reader_text.l0 kq x4_1 x5_1 x1000_1 = some (r1, r2, r3, r4, r5)) ∧ Aside0 (kq ≤ k) ∧ Aside0 (Kd.R (Kd.int .u8) 5 w' w.heap.size (fun _ => True) v4 x4_1) ∧ Aside0 (w'.heap[gb462]? = some (.cells #[.int .i64 x463000_1, .int .i64 x463001_1, .string x463002_1] 33 (0, 0))) ∧ Aside0 (IsS95 w0 w' g x1000_1) ∧ Aside0 (KeepBut w w' g none) ∧ Aside0 (Below w0.heap.size w0 w'))
  case atStart => exact ⟨(([] : List Int)), (0), (s0_0), (0), (0), ((⟨#[]⟩ : ByteArray)), (by first | rfl | (simp; done) | (simp [*]; done)), H', ⟨Nat.le_refl _⟩, ⟨by first | exact Kd.R_nil _ _ _ _ _ | exact Kd.N_nil _ _ _ _ _ | exact Kd.V_nil _ _ _ _ _ | exact Kd.Q_nil _ _ _ _ _ | exact Kd.S_nil _ _ _ _ _⟩, ⟨by (with_reducible repeat (first | refine blk_drewN ?_ _ | refine blk_drew ?_ | refine blk_alloc ?_ _)); exact BK462.out⟩, ⟨by repeat (first | (with_reducible first | exact HI0.out | apply IsS95.alloc | apply IsS95.drewN | apply IsS95.drew | apply IsS95.set_0 | refine IsS95.far ?_ NB0_462.out _) | exact HI0.out)⟩, ⟨by repeat (first | (with_reducible first | exact HK.out | apply KeepBut.set_ | apply keep_drewN | apply keep_drew | apply keep_alloc | refine keep_far ?_ GW462.out _) | exact HK.out)⟩, ⟨by repeat (first | (with_reducible first | exact HB.out | apply below_alloc | apply pw_below_drewN | apply below_drew1 | refine below_set ?_ (IsS95.ge HI0.out) | refine below_set ?_ GE462.out) | exact HB.out)⟩⟩
  case round =>
    clear H'
    try clear c1
    try clear p2
    obtain ⟨x4_1, x5_1, x1000_1, x463000_1, x463001_1, x463002_1, rfl, HA, HK1, HO_4, BK462, HI0, HK, HB⟩ := hrel
    cases gk with
    | zero => exact absurd HA.out (by simp [code_reader_text.l0])
    | succ k1 =>
      have H := HA.out
      clear HA
      simp only [code_reader_text.l0] at H
      by_cases c3 : x5_1 < (x1000_1.size : Int)
      · rw [if_pos c3] at H
        have c3b0 : decide (x5_1 < (x1000_1.size : Int)) = true := decide_eq_true c3
        clear c3
        by_cases c4 : 0 ≤ x5_1
        · rw [if_pos c4] at H
          have c4b0 : decide (0 ≤ x5_1) = true := decide_eq_true c4
          clear c4
          by_cases c6 : (bt x1000_1 x5_1) = 0
          · rw [if_pos c6] at H
            have c6b0 : ((bt x1000_1 x5_1) == 0) = true := beq_iff_eq.mpr c6
            have c6b1 : ((bt x1000_1 x5_1) != 0) = false := bne_eq_false_iff_eq.mpr c6
            clear c6
            by_cases c7 : (wrap64 (x5_1 + 1)) = (x1000_1.size : Int)
            · rw [if_pos c7] at H
              have c7b0 : ((wrap64 (x5_1 + 1)) == (x1000_1.size : Int)) = true := beq_iff_eq.mpr c7
              have c7b1 : ((wrap64 (x5_1 + 1)) != (x1000_1.size : Int)) = false := bne_eq_false_iff_eq.mpr c7
              clear c7
              replace H := Option.bind_eq_some_iff.mp H
              obtain ⟨⟨t469, t470, t471⟩, A80, H⟩ := H
              replace H : (some (t469, t470, t471, 10, x1000_1)) = some (r1, r2, r3, r4, r5) := H
              have A8 := Aside0.mk A80
              clear A80
              simp only [Option.some.injEq, Prod.mk.injEq] at H
              obtain ⟨rfl, rfl, rfl, rfl, rfl⟩ := H
              obtain ⟨HGz9, hgz9⟩ := HI0.out
              have hcz9_0 := cellS95_0 HGz9
              have hfz9_0 := blk_frozen HGz9 0
              clear HGz9 hgz9
              have p5 : 0 ≤ (x5_1 : Int) := of_decide_eq_true (by first | (with_reducible assumption) | assumption)
              have q5 : x5_1 < (x1000_1.size : Int) := of_decide_eq_true (by first | (with_reducible assumption) | assumption)
              have hx5 := bt_at x1000_1 x5_1
              replace p5 := eq_true p5
              replace q5 := eq_true q5
              go_wp2_with (first | ((with_reducible refine gate_callee (f := 32) rfl ?_); refine goesL_ (some 67) rfl rfl Try.func32 (by kernel_rfl) rfl #[] rfl (by (try simp only [List.map_toArray, List.map_cons, List.map_nil]); first | done | rfl | (simp only [List.length_drop, List.length_take]; rfl)) ?_; (with_reducible refine (value_Null.calls  t469 t470 t471 _ A8.out).mono ?_); rintro e w10 ⟨rfl, hb⟩; refine ⟨_, rfl, ?_⟩; have n0_ := Aside0.mk (Kd.R_below (by (with_reducible repeat (first | apply Kd.R_alloc | apply Kd.R_drewN | apply Kd.R_drew)); exact HO_4.out) hb); have n1_ := Aside0.mk (blk_below (g := gb462) (o := .cells #[.int .i64 x463000_1, .int .i64 x463001_1, .string x463002_1] 33 (0, 0)) (by (with_reducible repeat (first | refine blk_drewN ?_ _ | refine blk_drew ?_ | refine blk_alloc ?_ _)); exact BK462.out) hb); have n2_ := Aside0.mk (IsS95.below (by repeat (first | (with_reducible first | exact HI0.out | apply IsS95.alloc | apply IsS95.drewN | apply IsS95.drew | apply IsS95.set_0 | refine IsS95.far ?_ NB0_462.out _) | exact HI0.out)) hb); have n3_ := Aside0.mk (KeepBut.trans (by repeat (first | (with_reducible first | exact HK.out | apply KeepBut.set_ | apply keep_drewN | apply keep_drew | apply keep_alloc | refine keep_far ?_ GW462.out _) | exact HK.out)) (KeepBut.of_below hb g none) (.inl rfl)); have n4_ := Aside0.mk (below_step (by repeat (first | (with_reducible first | exact HB.out | apply below_alloc | apply pw_below_drewN | apply below_drew1 | refine below_set ?_ (IsS95.ge HI0.out) | refine below_set ?_ GE462.out) | exact HB.out)) hb); clear HO_4; clear BK462; clear HI0; clear HK; clear HB; have HO_4 := n0_; have BK462 := n1_; have HI0 := n2_; have HK := n3_; have HB := n4_; clear n0_ n1_ n2_ n3_ n4_; (try clear hb); (try clear hb2); (try clear hk); (try clear hi); have hnb11 := NB462_0.out; have hnc11 := NB0_462.out; have hcz12_0 : w10.cell? ⟨gb462, 0, none⟩ = some (.int .i64 x463000_1) := (blk_cell BK462.out 0).trans rfl; have hcz12_1 : w10.cell? ⟨gb462, 1, none⟩ = some (.int .i64 x463001_1) := (blk_cell BK462.out 1).trans rfl; have hcz12_2 : w10.cell? ⟨gb462, 2, none⟩ = some (.string x463002_1) := (blk_cell BK462.out 2).trans rfl; have hfz12_0 := blk_frozen BK462.out 0; have hfz12_1 := blk_frozen BK462.out 1; have hfz12_2 := blk_frozen BK462.out 2))
              refine ret_straight ?_
              refine bodyPost_ret (results_ct rfl _ _ gb462 33 #[.int .i64 t469, .int .i64 t470, .string t471] (0, 0) _ rfl (by (with_reducible repeat (first | refine blk_drewN ?_ _ | refine blk_drew ?_ | refine blk_alloc ?_ _)); refine blk_put (cs := #[.int .i64 t469, .int .i64 t470, .string x463002_1]) ?_ 2 _ rfl; (with_reducible repeat (first | refine blk_drewN ?_ _ | refine blk_drew ?_ | refine blk_alloc ?_ _)); refine blk_put (cs := #[.int .i64 t469, .int .i64 x463001_1, .string x463002_1]) ?_ 1 _ rfl; (with_reducible repeat (first | refine blk_drewN ?_ _ | refine blk_drew ?_ | refine blk_alloc ?_ _)); refine blk_put (cs := #[.int .i64 x463000_1, .int .i64 x463001_1, .string x463002_1]) ?_ 0 _ rfl; (with_reducible repeat (first | refine blk_drewN ?_ _ | refine blk_drew ?_ | refine blk_alloc ?_ _)); exact BK462.out) Try.underlying33 rfl (by kernel_rfl)) rfl ?_
              exact ⟨by first | rfl | (simp [errW_none, errW_some] <;> rfl) | (simp [*, errW_none, errW_some] <;> rfl), by repeat (first | (with_reducible first | exact HI0.out | apply IsS95.alloc | apply IsS95.drewN | apply IsS95.drew | apply IsS95.set_0 | refine IsS95.far ?_ NB0_462.out _) | exact HI0.out), by repeat (first | (with_reducible first | exact HB.out | apply below_alloc | apply pw_below_drewN | apply below_drew1 | refine below_set ?_ (IsS95.ge HI0.out) | refine below_set ?_ GE462.out) | exact HB.out), by repeat (first | (with_reducible first | exact HK.out | apply KeepBut.set_ | apply keep_drewN | apply keep_drew | apply keep_alloc | refine keep_far ?_ GW462.out _) | exact HK.out)⟩
            · rw [if_neg c7] at H
              have c7b0 : ((wrap64 (x5_1 + 1)) == (x1000_1.size : Int)) = false := beq_eq_false_iff_ne.mpr c7
              have c7b1 : ((wrap64 (x5_1 + 1)) != (x1000_1.size : Int)) = true := bne_iff_ne.mpr c7
              obtain ⟨ji13, hji13⟩ : ∃ j_ : Int, (wrap64 (x5_1 + 1)) = j_ := ⟨_, rfl⟩
              replace H : (if 0 ≤ (ji13) then (if (ji13) < (x1000_1.size : Int) then (if (bt x1000_1 (ji13)) = 255 then (if x4_1.length < 140737488355328 then (code_reader_text.l0 k1 (x4_1 ++ [0]) (wrap64 ((ji13) + 1)) x1000_1) else (none)) else (if (bt x1000_1 (ji13)) = 0 then (if 0 ≤ (wrap64 ((ji13) + 1)) then (if (wrap64 ((ji13) + 1)) ≤ (x1000_1.size : Int) then (if (x4_1.length : Int) > 1000 then ((value_Null.f).bind fun bt475 => (some (bt475.1, bt475.2.1, bt475.2.2, 8, x1000_1.extract ((wrap64 ((ji13) + 1)) : Int).toNat x1000_1.size))) else ((value_Text.f (strOfNums x4_1)).bind fun bt478 => (some (bt478.1, bt478.2.1, bt478.2.2, 0, x1000_1.extract ((wrap64 ((ji13) + 1)) : Int).toNat x1000_1.size)))) else (none)) else (none)) else ((value_Null.f).bind fun bt481 => (some (bt481.1, bt481.2.1, bt481.2.2, 10, x1000_1))))) else (none)) else (none)) = some (r1, r2, r3, r4, r5) := by first | (rw [hji13] at H; exact H) | (simp only [hji13] at H ⊢; exact H)
              (try rw [hji13] at c7b0)
              (try rw [hji13] at c7b1)
              have hji13w : (IntKind.i64.wrap (x5_1 + 1)) = ji13 := (i64_w _).trans hji13
              by_cases c14 : 0 ≤ (ji13)
              · rw [if_pos c14] at H
                have c14b0 : decide (0 ≤ (ji13)) = true := decide_eq_true c14
                clear c14
                by_cases c15 : (ji13) < (x1000_1.size : Int)
                · rw [if_pos c15] at H
                  have c15b0 : decide ((ji13) < (x1000_1.size : Int)) = true := decide_eq_true c15
                  clear c15
                  by_cases c17 : (bt x1000_1 (ji13)) = 255
                  · rw [if_pos c17] at H
                    have c17b0 : ((bt x1000_1 (ji13)) == 255) = true := beq_iff_eq.mpr c17
                    have c17b1 : ((bt x1000_1 (ji13)) != 255) = false := bne_eq_false_iff_eq.mpr c17
                    clear c17
                    by_cases c18 : x4_1.length < 140737488355328
                    · rw [if_pos c18] at H
                      have LMc18 := Aside0.mk c18
                      clear c18
                      obtain ⟨y472, hy472⟩ : ∃ y_ : List Int, y_ = (x4_1 ++ [0]) := ⟨_, rfl⟩
                      replace H : (code_reader_text.l0 k1 y472 (wrap64 ((ji13) + 1)) x1000_1) = some (r1, r2, r3, r4, r5) := by first | (rw [hy472]; with_reducible exact H) | (have H2_ := (Option.bind_some _ _).symm.trans H; rw [hy472]; with_reducible exact H2_) | (have H2_ := (Option.bind_some _ _).symm.trans H; with_reducible exact H2_) | with_reducible exact H | (rw [hy472]; exact H) | exact H
                      have Ny472 := Aside0.mk hy472
                      clear hy472
                      have H' := Aside0.mk H
                      clear H
                      obtain ⟨HGz19, hgz19⟩ := HI0.out
                      have hcz19_0 := cellS95_0 HGz19
                      have hfz19_0 := blk_frozen HGz19 0
                      clear HGz19 hgz19
                      have p5 : 0 ≤ (x5_1 : Int) := of_decide_eq_true (by first | (with_reducible assumption) | assumption)
                      have q5 : x5_1 < (x1000_1.size : Int) := of_decide_eq_true (by first | (with_reducible assumption) | assumption)
                      have hx5 := bt_at x1000_1 x5_1
                      replace p5 := eq_true p5
                      replace q5 := eq_true q5
                      have p16 : 0 ≤ ((ji13) : Int) := of_decide_eq_true (by first | (with_reducible assumption) | assumption)
                      have q16 : (ji13) < (x1000_1.size : Int) := of_decide_eq_true (by first | (with_reducible assumption) | assumption)
                      have hx16 := bt_at x1000_1 (ji13)
                      replace p16 := eq_true p16
                      replace q16 := eq_true q16
                      go_wp2_with (first | ((with_reducible refine gate_builtin (b := .append) (xs := #[.tmp 46, .tmp 47]) rfl ?_); at_builtin; refine Kd.R_append (Kd.int .u8) w.heap.size rfl (.tmp 46) (.tmp 47) 77 5 (.int .u8 0) 1 rfl Try.underlying77 info5 rfl (by decide) (by omega) u4 x4_1 0 [.int .u8 0] (fun _ => True) (fun _ => False) rfl rfl ?aP (fun _ hk => hk.elim) ?aF ?aO (Below.refl _ _) ?aS ?aL ?_; (case aP => exact rfl); (case aF => exact (fun _ _ => trivial)); (case aO => exact (by (with_reducible repeat (first | apply Kd.R_alloc | apply Kd.R_drewN | apply Kd.R_drew)); exact HO_4.out)); (case aS => exact (keep_size (w := w) (g := g) (row := none) (by repeat (first | (with_reducible first | exact HK.out | apply KeepBut.set_ | apply keep_drewN | apply keep_drew | apply keep_alloc | refine keep_far ?_ GW462.out _) | exact HK.out)))); (case aL => have := LMc18.out; omega); intro v473 w20 ho hb hg hat; rw [← Ny472.out] at ho; have n0_ := Aside0.mk (blk_grown (g := gb462) (o := .cells #[.int .i64 x463000_1, .int .i64 x463001_1, .string x463002_1] 33 (0, 0)) (by (with_reducible repeat (first | refine blk_drewN ?_ _ | refine blk_drew ?_ | refine blk_alloc ?_ _)); exact BK462.out) hg (Kd.R_ne HO_4.out BK462.out (by decide))); have n1_ := Aside0.mk (IsS95.grown (by repeat (first | (with_reducible first | exact HI0.out | apply IsS95.alloc | apply IsS95.drewN | apply IsS95.drew | apply IsS95.set_0 | refine IsS95.far ?_ NB0_462.out _) | exact HI0.out)) hg (IsS95.own_ne HI0.out HO_4.out (by decide))); have n2_ := Aside0.mk (below_weaken (by repeat (first | (with_reducible first | exact HB.out | apply below_alloc | apply pw_below_drewN | apply below_drew1 | refine below_set ?_ (IsS95.ge HI0.out) | refine below_set ?_ GE462.out) | exact HB.out)) HL.out hb); have n3_ := Aside0.mk (KeepBut.trans (by repeat (first | (with_reducible first | exact HK.out | apply KeepBut.set_ | apply keep_drewN | apply keep_drew | apply keep_alloc | refine keep_far ?_ GW462.out _) | exact HK.out)) (KeepBut.of_grown hg g) (Kd.R_base2 HO_4.out)); have n4_ := Aside0.mk (ho); clear BK462; clear HI0; clear HB; clear HK; clear HO_4; have BK462 := n0_; have HI0 := n1_; have HB := n2_; have HK := n3_; have HO474 := n4_; clear n0_ n1_ n2_ n3_ n4_; clear ho hb hg hat))
                      go_roundg k1
                      case measure => have := HK1.out; omega
                      case rel => exact ⟨(y472), (wrap64 ((ji13) + 1)), (x1000_1), (x463000_1), (x463001_1), (x463002_1), (by first | rfl | (simp; done) | (simp only [← hji13] <;> (first | rfl | simp)) | (simp [*]; done)), H', ⟨by have := HK1.out; omega⟩, ⟨by (with_reducible repeat (first | apply Kd.R_alloc | apply Kd.R_drewN | apply Kd.R_drew)); exact HO474.out⟩, ⟨by (with_reducible repeat (first | refine blk_drewN ?_ _ | refine blk_drew ?_ | refine blk_alloc ?_ _)); exact BK462.out⟩, ⟨by repeat (first | (with_reducible first | exact HI0.out | apply IsS95.alloc | apply IsS95.drewN | apply IsS95.drew | apply IsS95.set_0 | refine IsS95.far ?_ NB0_462.out _) | exact HI0.out)⟩, ⟨by repeat (first | (with_reducible first | exact HK.out | apply KeepBut.set_ | apply keep_drewN | apply keep_drew | apply keep_alloc | refine keep_far ?_ GW462.out _) | exact HK.out)⟩, ⟨by repeat (first | (with_reducible first | exact HB.out | apply below_alloc | apply pw_below_drewN | apply below_drew1 | refine below_set ?_ (IsS95.ge HI0.out) | refine below_set ?_ GE462.out) | exact HB.out)⟩⟩
                    · rw [if_neg c18] at H
                      exact absurd H (by simp)
                  · rw [if_neg c17] at H
                    have c17b0 : ((bt x1000_1 (ji13)) == 255) = false := beq_eq_false_iff_ne.mpr c17
                    have c17b1 : ((bt x1000_1 (ji13)) != 255) = true := bne_iff_ne.mpr c17
                    by_cases c21 : (bt x1000_1 (ji13)) = 0
                    · rw [if_pos c21] at H
                      have c21b0 : ((bt x1000_1 (ji13)) == 0) = true := beq_iff_eq.mpr c21
                      have c21b1 : ((bt x1000_1 (ji13)) != 0) = false := bne_eq_false_iff_eq.mpr c21
                      clear c21
                      obtain ⟨ji22, hji22⟩ : ∃ j_ : Int, (wrap64 ((ji13) + 1)) = j_ := ⟨_, rfl⟩
                      replace H : (if 0 ≤ (ji22) then (if (ji22) ≤ (x1000_1.size : Int) then (if (x4_1.length : Int) > 1000 then ((value_Null.f).bind fun bt475 => (some (bt475.1, bt475.2.1, bt475.2.2, 8, x1000_1.extract ((ji22) : Int).toNat x1000_1.size))) else ((value_Text.f (strOfNums x4_1)).bind fun bt478 => (some (bt478.1, bt478.2.1, bt478.2.2, 0, x1000_1.extract ((ji22) : Int).toNat x1000_1.size)))) else (none)) else (none)) = some (r1, r2, r3, r4, r5) := by first | (rw [hji22] at H; exact H) | (simp only [hji22] at H ⊢; exact H)
                      have hji22w : (IntKind.i64.wrap ((ji13) + 1)) = ji22 := (i64_w _).trans hji22
                      by_cases c23 : 0 ≤ (ji22)
                      · rw [if_pos c23] at H
                        have c23b0 := eq_true c23
                        have c23b1 : decide (0 ≤ (ji22)) = true := decide_eq_true c23
                        clear c23
                        by_cases c24 : (ji22) ≤ (x1000_1.size : Int)
                        · rw [if_pos c24] at H
                          have c24b0 := eq_true c24
                          have c24b1 : decide ((ji22) ≤ (x1000_1.size : Int)) = true := decide_eq_true c24
                          clear c24
                          by_cases c25 : (x4_1.length : Int) > 1000
                          · rw [if_pos c25] at H
                            have c25b0 : decide (1000 < (x4_1.length : Int)) = true := decide_eq_true c25
                            have c25b1 : decide (1000 < x4_1.length) = true := decide_eq_true (by omega)
                            clear c25
                            replace H := Option.bind_eq_some_iff.mp H
                            obtain ⟨⟨t475, t476, t477⟩, A260, H⟩ := H
                            replace H : (some (t475, t476, t477, 8, x1000_1.extract ((ji22) : Int).toNat x1000_1.size)) = some (r1, r2, r3, r4, r5) := H
                            have A26 := Aside0.mk A260
                            clear A260
                            simp only [Option.some.injEq, Prod.mk.injEq] at H
                            obtain ⟨rfl, rfl, rfl, rfl, rfl⟩ := H
                            obtain ⟨HGz27, hgz27⟩ := HI0.out
                            have hcz27_0 := cellS95_0 HGz27
                            have hfz27_0 := blk_frozen HGz27 0
                            clear HGz27 hgz27
                            have p5 : 0 ≤ (x5_1 : Int) := of_decide_eq_true (by first | (with_reducible assumption) | assumption)
                            have q5 : x5_1 < (x1000_1.size : Int) := of_decide_eq_true (by first | (with_reducible assumption) | assumption)
                            have hx5 := bt_at x1000_1 x5_1
                            replace p5 := eq_true p5
                            replace q5 := eq_true q5
                            have p16 : 0 ≤ ((ji13) : Int) := of_decide_eq_true (by first | (with_reducible assumption) | assumption)
                            have q16 : (ji13) < (x1000_1.size : Int) := of_decide_eq_true (by first | (with_reducible assumption) | assumption)
                            have hx16 := bt_at x1000_1 (ji13)
                            replace p16 := eq_true p16
                            replace q16 := eq_true q16
                            obtain ⟨Ao28, co28, eo28⟩ := Kd.R_slice HO_4.out
                            subst eo28
                            go_wp2_with (first | ((with_reducible refine gate_callee (f := 32) rfl ?_); refine goesL_ (some 63) rfl rfl Try.func32 (by kernel_rfl) rfl #[] rfl (by (try simp only [List.map_toArray, List.map_cons, List.map_nil]); first | done | rfl | (simp only [List.length_drop, List.length_take]; rfl)) ?_; (with_reducible refine (value_Null.calls  t475 t476 t477 _ A26.out).mono ?_); rintro e w29 ⟨rfl, hb⟩; refine ⟨_, rfl, ?_⟩; have n0_ := Aside0.mk (Kd.R_below (by (with_reducible repeat (first | apply Kd.R_alloc | apply Kd.R_drewN | apply Kd.R_drew)); exact (Kd.R_mono (Kd.R_far (p := ⟨g, 0, none⟩) (IsS95.apart HI0.out HO_4.out (by decide)) (fun _ hk => hk.2) (.string (x1000_1.extract ((ji22) : Int).toNat x1000_1.size))) (fun _ h_ => h_.1))) hb); have n1_ := Aside0.mk (blk_below (g := gb462) (o := .cells #[.int .i64 x463000_1, .int .i64 x463001_1, .string x463002_1] 33 (0, 0)) (by (with_reducible repeat (first | refine blk_drewN ?_ _ | refine blk_drew ?_ | refine blk_alloc ?_ _)); refine blk_far ?_ NB462_0.out _; (with_reducible repeat (first | refine blk_drewN ?_ _ | refine blk_drew ?_ | refine blk_alloc ?_ _)); exact BK462.out) hb); have n2_ := Aside0.mk (IsS95.below (show IsS95 w0 (wr.setCell ⟨g, 0, none⟩ (.string (x1000_1.extract ((ji22) : Int).toNat x1000_1.size))) g (x1000_1.extract ((ji22) : Int).toNat x1000_1.size) from by repeat (first | (with_reducible first | exact HI0.out | apply IsS95.alloc | apply IsS95.drewN | apply IsS95.drew | apply IsS95.set_0 | refine IsS95.far ?_ NB0_462.out _) | exact HI0.out)) hb); have n3_ := Aside0.mk (KeepBut.trans (by repeat (first | (with_reducible first | exact HK.out | apply KeepBut.set_ | apply keep_drewN | apply keep_drew | apply keep_alloc | refine keep_far ?_ GW462.out _) | exact HK.out)) (KeepBut.of_below hb g none) (.inl rfl)); have n4_ := Aside0.mk (below_step (by repeat (first | (with_reducible first | exact HB.out | apply below_alloc | apply pw_below_drewN | apply below_drew1 | refine below_set ?_ (IsS95.ge HI0.out) | refine below_set ?_ GE462.out) | exact HB.out)) hb); clear HO_4; clear BK462; clear HI0; clear HK; clear HB; have HO_4 := n0_; have BK462 := n1_; have HI0 := n2_; have HK := n3_; have HB := n4_; clear n0_ n1_ n2_ n3_ n4_; (try clear hb); (try clear hb2); (try clear hk); (try clear hi); have hnb30 := NB462_0.out; have hnc30 := NB0_462.out; have hcz31_0 : w29.cell? ⟨gb462, 0, none⟩ = some (.int .i64 x463000_1) := (blk_cell BK462.out 0).trans rfl; have hcz31_1 : w29.cell? ⟨gb462, 1, none⟩ = some (.int .i64 x463001_1) := (blk_cell BK462.out 1).trans rfl; have hcz31_2 : w29.cell? ⟨gb462, 2, none⟩ = some (.string x463002_1) := (blk_cell BK462.out 2).trans rfl; have hfz31_0 := blk_frozen BK462.out 0; have hfz31_1 := blk_frozen BK462.out 1; have hfz31_2 := blk_frozen BK462.out 2))
                            refine ret_straight ?_
                            refine bodyPost_ret (results_ct rfl _ _ gb462 33 #[.int .i64 t475, .int .i64 t476, .string t477] (0, 0) _ rfl (by (with_reducible repeat (first | refine blk_drewN ?_ _ | refine blk_drew ?_ | refine blk_alloc ?_ _)); refine blk_put (cs := #[.int .i64 t475, .int .i64 t476, .string x463002_1]) ?_ 2 _ rfl; (with_reducible repeat (first | refine blk_drewN ?_ _ | refine blk_drew ?_ | refine blk_alloc ?_ _)); refine blk_put (cs := #[.int .i64 t475, .int .i64 x463001_1, .string x463002_1]) ?_ 1 _ rfl; (with_reducible repeat (first | refine blk_drewN ?_ _ | refine blk_drew ?_ | refine blk_alloc ?_ _)); refine blk_put (cs := #[.int .i64 x463000_1, .int .i64 x463001_1, .string x463002_1]) ?_ 0 _ rfl; (with_reducible repeat (first | refine blk_drewN ?_ _ | refine blk_drew ?_ | refine blk_alloc ?_ _)); exact BK462.out) Try.underlying33 rfl (by kernel_rfl)) rfl ?_
                            exact ⟨by first | rfl | (simp [errW_none, errW_some] <;> rfl) | (simp only [← hji13, ← hji22]; first | rfl | (simp [errW_none, errW_some] <;> rfl)) | (simp [*, errW_none, errW_some] <;> rfl), by repeat (first | (with_reducible first | exact HI0.out | apply IsS95.alloc | apply IsS95.drewN | apply IsS95.drew | apply IsS95.set_0 | refine IsS95.far ?_ NB0_462.out _) | exact HI0.out), by repeat (first | (with_reducible first | exact HB.out | apply below_alloc | apply pw_below_drewN | apply below_drew1 | refine below_set ?_ (IsS95.ge HI0.out) | refine below_set ?_ GE462.out) | exact HB.out), by repeat (first | (with_reducible first | exact HK.out | apply KeepBut.set_ | apply keep_drewN | apply keep_drew | apply keep_alloc | refine keep_far ?_ GW462.out _) | exact HK.out)⟩
                          · rw [if_neg c25] at H
                            have c25b0 : decide (1000 < (x4_1.length : Int)) = false := decide_eq_false c25
                            have c25b1 : decide (1000 < x4_1.length) = false := decide_eq_false (by omega)
                            clear c25
                            replace H := Option.bind_eq_some_iff.mp H
                            obtain ⟨⟨t478, t479, t480⟩, A320, H⟩ := H
                            replace H : (some (t478, t479, t480, 0, x1000_1.extract ((ji22) : Int).toNat x1000_1.size)) = some (r1, r2, r3, r4, r5) := H
                            have A32 := Aside0.mk A320
                            clear A320
                            simp only [Option.some.injEq, Prod.mk.injEq] at H
                            obtain ⟨rfl, rfl, rfl, rfl, rfl⟩ := H
                            obtain ⟨HGz33, hgz33⟩ := HI0.out
                            have hcz33_0 := cellS95_0 HGz33
                            have hfz33_0 := blk_frozen HGz33 0
                            clear HGz33 hgz33
                            have p5 : 0 ≤ (x5_1 : Int) := of_decide_eq_true (by first | (with_reducible assumption) | assumption)
                            have q5 : x5_1 < (x1000_1.size : Int) := of_decide_eq_true (by first | (with_reducible assumption) | assumption)
                            have hx5 := bt_at x1000_1 x5_1
                            replace p5 := eq_true p5
                            replace q5 := eq_true q5
                            have p16 : 0 ≤ ((ji13) : Int) := of_decide_eq_true (by first | (with_reducible assumption) | assumption)
                            have q16 : (ji13) < (x1000_1.size : Int) := of_decide_eq_true (by first | (with_reducible assumption) | assumption)
                            have hx16 := bt_at x1000_1 (ji13)
                            replace p16 := eq_true p16
                            replace q16 := eq_true q16
                            obtain ⟨Ao34, co34, eo34⟩ := Kd.R_slice HO_4.out
                            subst eo34
                            have hcv35 := own_string (P := Try.prog) Try.underlying77 Try.underlying5 Try.underlying9 (Kd.own_of_R (Kd.R_far (p := ⟨g, 0, none⟩) (IsS95.apart HI0.out HO_4.out (by decide)) (fun _ hk => hk.2) (.string (x1000_1.extract ((ji22) : Int).toNat x1000_1.size))))
                            go_wp2_with (first | ((with_reducible refine gate_callee (f := 37) rfl ?_); refine goesL_ (some 66) rfl rfl Try.func37 (by kernel_rfl) rfl #[.string (strOfNums x4_1)] rfl (by (try simp only [List.map_toArray, List.map_cons, List.map_nil]); first | done | rfl | (simp only [List.length_drop, List.length_take]; rfl)) ?_; (with_reducible refine (value_Text.calls (strOfNums x4_1) t478 t479 t480 _ A32.out).mono ?_); rintro e w36 ⟨rfl, hb⟩; refine ⟨_, rfl, ?_⟩; have n0_ := Aside0.mk (Kd.R_below (by (with_reducible repeat (first | apply Kd.R_alloc | apply Kd.R_drewN | apply Kd.R_drew)); exact (Kd.R_mono (Kd.R_far (p := ⟨g, 0, none⟩) (IsS95.apart HI0.out HO_4.out (by decide)) (fun _ hk => hk.2) (.string (x1000_1.extract ((ji22) : Int).toNat x1000_1.size))) (fun _ h_ => h_.1))) hb); have n1_ := Aside0.mk (blk_below (g := gb462) (o := .cells #[.int .i64 x463000_1, .int .i64 x463001_1, .string x463002_1] 33 (0, 0)) (by (with_reducible repeat (first | refine blk_drewN ?_ _ | refine blk_drew ?_ | refine blk_alloc ?_ _)); refine blk_far ?_ NB462_0.out _; (with_reducible repeat (first | refine blk_drewN ?_ _ | refine blk_drew ?_ | refine blk_alloc ?_ _)); exact BK462.out) hb); have n2_ := Aside0.mk (IsS95.below (show IsS95 w0 (wr.setCell ⟨g, 0, none⟩ (.string (x1000_1.extract ((ji22) : Int).toNat x1000_1.size))) g (x1000_1.extract ((ji22) : Int).toNat x1000_1.size) from by repeat (first | (with_reducible first | exact HI0.out | apply IsS95.alloc | apply IsS95.drewN | apply IsS95.drew | apply IsS95.set_0 | refine IsS95.far ?_ NB0_462.out _) | exact HI0.out)) hb); have n3_ := Aside0.mk (KeepBut.trans (by repeat (first | (with_reducible first | exact HK.out | apply KeepBut.set_ | apply keep_drewN | apply keep_drew | apply keep_alloc | refine keep_far ?_ GW462.out _) | exact HK.out)) (KeepBut.of_below hb g none) (.inl rfl)); have n4_ := Aside0.mk (below_step (by repeat (first | (with_reducible first | exact HB.out | apply below_alloc | apply pw_below_drewN | apply below_drew1 | refine below_set ?_ (IsS95.ge HI0.out) | refine below_set ?_ GE462.out) | exact HB.out)) hb); clear HO_4; clear BK462; clear HI0; clear HK; clear HB; have HO_4 := n0_; have BK462 := n1_; have HI0 := n2_; have HK := n3_; have HB := n4_; clear n0_ n1_ n2_ n3_ n4_; (try clear hb); (try clear hb2); (try clear hk); (try clear hi); have hnb37 := NB462_0.out; have hnc37 := NB0_462.out; have hcz38_0 : w36.cell? ⟨gb462, 0, none⟩ = some (.int .i64 x463000_1) := (blk_cell BK462.out 0).trans rfl; have hcz38_1 : w36.cell? ⟨gb462, 1, none⟩ = some (.int .i64 x463001_1) := (blk_cell BK462.out 1).trans rfl; have hcz38_2 : w36.cell? ⟨gb462, 2, none⟩ = some (.string x463002_1) := (blk_cell BK462.out 2).trans rfl; have hfz38_0 := blk_frozen BK462.out 0; have hfz38_1 := blk_frozen BK462.out 1; have hfz38_2 := blk_frozen BK462.out 2))
                            refine ret_straight ?_
                            refine bodyPost_ret (results_ct rfl _ _ gb462 33 #[.int .i64 t478, .int .i64 t479, .string t480] (0, 0) _ rfl (by (with_reducible repeat (first | refine blk_drewN ?_ _ | refine blk_drew ?_ | refine blk_alloc ?_ _)); refine blk_put (cs := #[.int .i64 t478, .int .i64 t479, .string x463002_1]) ?_ 2 _ rfl; (with_reducible repeat (first | refine blk_drewN ?_ _ | refine blk_drew ?_ | refine blk_alloc ?_ _)); refine blk_put (cs := #[.int .i64 t478, .int .i64 x463001_1, .string x463002_1]) ?_ 1 _ rfl; (with_reducible repeat (first | refine blk_drewN ?_ _ | refine blk_drew ?_ | refine blk_alloc ?_ _)); refine blk_put (cs := #[.int .i64 x463000_1, .int .i64 x463001_1, .string x463002_1]) ?_ 0 _ rfl; (with_reducible repeat (first | refine blk_drewN ?_ _ | refine blk_drew ?_ | refine blk_alloc ?_ _)); exact BK462.out) Try.underlying33 rfl (by kernel_rfl)) rfl ?_
                            exact ⟨by first | rfl | (simp [errW_none, errW_some] <;> rfl) | (simp only [← hji13, ← hji22]; first | rfl | (simp [errW_none, errW_some] <;> rfl)) | (simp [*, errW_none, errW_some] <;> rfl), by repeat (first | (with_reducible first | exact HI0.out | apply IsS95.alloc | apply IsS95.drewN | apply IsS95.drew | apply IsS95.set_0 | refine IsS95.far ?_ NB0_462.out _) | exact HI0.out), by repeat (first | (with_reducible first | exact HB.out | apply below_alloc | apply pw_below_drewN | apply below_drew1 | refine below_set ?_ (IsS95.ge HI0.out) | refine below_set ?_ GE462.out) | exact HB.out), by repeat (first | (with_reducible first | exact HK.out | apply KeepBut.set_ | apply keep_drewN | apply keep_drew | apply keep_alloc | refine keep_far ?_ GW462.out _) | exact HK.out)⟩
                        · rw [if_neg c24] at H
                          exact absurd H (by simp)
                      · rw [if_neg c23] at H
                        exact absurd H (by simp)
                    · rw [if_neg c21] at H
                      have c21b0 : ((bt x1000_1 (ji13)) == 0) = false := beq_eq_false_iff_ne.mpr c21
                      have c21b1 : ((bt x1000_1 (ji13)) != 0) = true := bne_iff_ne.mpr c21
                      replace H := Option.bind_eq_some_iff.mp H
                      obtain ⟨⟨t481, t482, t483⟩, A390, H⟩ := H
                      replace H : (some (t481, t482, t483, 10, x1000_1)) = some (r1, r2, r3, r4, r5) := H
                      have A39 := Aside0.mk A390
                      clear A390
                      simp only [Option.some.injEq, Prod.mk.injEq] at H
                      obtain ⟨rfl, rfl, rfl, rfl, rfl⟩ := H
                      obtain ⟨HGz40, hgz40⟩ := HI0.out
                      have hcz40_0 := cellS95_0 HGz40
                      have hfz40_0 := blk_frozen HGz40 0
                      clear HGz40 hgz40
                      have p5 : 0 ≤ (x5_1 : Int) := of_decide_eq_true (by first | (with_reducible assumption) | assumption)
                      have q5 : x5_1 < (x1000_1.size : Int) := of_decide_eq_true (by first | (with_reducible assumption) | assumption)
                      have hx5 := bt_at x1000_1 x5_1
                      replace p5 := eq_true p5
                      replace q5 := eq_true q5
                      have p16 : 0 ≤ ((ji13) : Int) := of_decide_eq_true (by first | (with_reducible assumption) | assumption)
                      have q16 : (ji13) < (x1000_1.size : Int) := of_decide_eq_true (by first | (with_reducible assumption) | assumption)
                      have hx16 := bt_at x1000_1 (ji13)
                      replace p16 := eq_true p16
                      replace q16 := eq_true q16
                      go_wp2_with (first | ((with_reducible refine gate_callee (f := 32) rfl ?_); refine goesL_ (some 67) rfl rfl Try.func32 (by kernel_rfl) rfl #[] rfl (by (try simp only [List.map_toArray, List.map_cons, List.map_nil]); first | done | rfl | (simp only [List.length_drop, List.length_take]; rfl)) ?_; (with_reducible refine (value_Null.calls  t481 t482 t483 _ A39.out).mono ?_); rintro e w41 ⟨rfl, hb⟩; refine ⟨_, rfl, ?_⟩; have n0_ := Aside0.mk (Kd.R_below (by (with_reducible repeat (first | apply Kd.R_alloc | apply Kd.R_drewN | apply Kd.R_drew)); exact HO_4.out) hb); have n1_ := Aside0.mk (blk_below (g := gb462) (o := .cells #[.int .i64 x463000_1, .int .i64 x463001_1, .string x463002_1] 33 (0, 0)) (by (with_reducible repeat (first | refine blk_drewN ?_ _ | refine blk_drew ?_ | refine blk_alloc ?_ _)); exact BK462.out) hb); have n2_ := Aside0.mk (IsS95.below (by repeat (first | (with_reducible first | exact HI0.out | apply IsS95.alloc | apply IsS95.drewN | apply IsS95.drew | apply IsS95.set_0 | refine IsS95.far ?_ NB0_462.out _) | exact HI0.out)) hb); have n3_ := Aside0.mk (KeepBut.trans (by repeat (first | (with_reducible first | exact HK.out | apply KeepBut.set_ | apply keep_drewN | apply keep_drew | apply keep_alloc | refine keep_far ?_ GW462.out _) | exact HK.out)) (KeepBut.of_below hb g none) (.inl rfl)); have n4_ := Aside0.mk (below_step (by repeat (first | (with_reducible first | exact HB.out | apply below_alloc | apply pw_below_drewN | apply below_drew1 | refine below_set ?_ (IsS95.ge HI0.out) | refine below_set ?_ GE462.out) | exact HB.out)) hb); clear HO_4; clear BK462; clear HI0; clear HK; clear HB; have HO_4 := n0_; have BK462 := n1_; have HI0 := n2_; have HK := n3_; have HB := n4_; clear n0_ n1_ n2_ n3_ n4_; (try clear hb); (try clear hb2); (try clear hk); (try clear hi); have hnb42 := NB462_0.out; have hnc42 := NB0_462.out; have hcz43_0 : w41.cell? ⟨gb462, 0, none⟩ = some (.int .i64 x463000_1) := (blk_cell BK462.out 0).trans rfl; have hcz43_1 : w41.cell? ⟨gb462, 1, none⟩ = some (.int .i64 x463001_1) := (blk_cell BK462.out 1).trans rfl; have hcz43_2 : w41.cell? ⟨gb462, 2, none⟩ = some (.string x463002_1) := (blk_cell BK462.out 2).trans rfl; have hfz43_0 := blk_frozen BK462.out 0; have hfz43_1 := blk_frozen BK462.out 1; have hfz43_2 := blk_frozen BK462.out 2))
                      refine ret_straight ?_
                      refine bodyPost_ret (results_ct rfl _ _ gb462 33 #[.int .i64 t481, .int .i64 t482, .string t483] (0, 0) _ rfl (by (with_reducible repeat (first | refine blk_drewN ?_ _ | refine blk_drew ?_ | refine blk_alloc ?_ _)); refine blk_put (cs := #[.int .i64 t481, .int .i64 t482, .string x463002_1]) ?_ 2 _ rfl; (with_reducible repeat (first | refine blk_drewN ?_ _ | refine blk_drew ?_ | refine blk_alloc ?_ _)); refine blk_put (cs := #[.int .i64 t481, .int .i64 x463001_1, .string x463002_1]) ?_ 1 _ rfl; (with_reducible repeat (first | refine blk_drewN ?_ _ | refine blk_drew ?_ | refine blk_alloc ?_ _)); refine blk_put (cs := #[.int .i64 x463000_1, .int .i64 x463001_1, .string x463002_1]) ?_ 0 _ rfl; (with_reducible repeat (first | refine blk_drewN ?_ _ | refine blk_drew ?_ | refine blk_alloc ?_ _)); exact BK462.out) Try.underlying33 rfl (by kernel_rfl)) rfl ?_
                      exact ⟨by first | rfl | (simp [errW_none, errW_some] <;> rfl) | (simp only [← hji13]; first | rfl | (simp [errW_none, errW_some] <;> rfl)) | (simp [*, errW_none, errW_some] <;> rfl), by repeat (first | (with_reducible first | exact HI0.out | apply IsS95.alloc | apply IsS95.drewN | apply IsS95.drew | apply IsS95.set_0 | refine IsS95.far ?_ NB0_462.out _) | exact HI0.out), by repeat (first | (with_reducible first | exact HB.out | apply below_alloc | apply pw_below_drewN | apply below_drew1 | refine below_set ?_ (IsS95.ge HI0.out) | refine below_set ?_ GE462.out) | exact HB.out), by repeat (first | (with_reducible first | exact HK.out | apply KeepBut.set_ | apply keep_drewN | apply keep_drew | apply keep_alloc | refine keep_far ?_ GW462.out _) | exact HK.out)⟩
                · rw [if_neg c15] at H
                  exact absurd H (by simp)
              · rw [if_neg c14] at H
                exact absurd H (by simp)
          · rw [if_neg c6] at H
            have c6b0 : ((bt x1000_1 x5_1) == 0) = false := beq_eq_false_iff_ne.mpr c6
            have c6b1 : ((bt x1000_1 x5_1) != 0) = true := bne_iff_ne.mpr c6
            by_cases c44 : x4_1.length < 140737488355328
            · rw [if_pos c44] at H
              have LMc44 := Aside0.mk c44
              clear c44
              obtain ⟨y466, hy466⟩ : ∃ y_ : List Int, y_ = (x4_1 ++ [bt x1000_1 x5_1]) := ⟨_, rfl⟩
              replace H : (code_reader_text.l0 k1 y466 (wrap64 (x5_1 + 1)) x1000_1) = some (r1, r2, r3, r4, r5) := by first | (rw [hy466]; with_reducible exact H) | (have H2_ := (Option.bind_some _ _).symm.trans H; rw [hy466]; with_reducible exact H2_) | (have H2_ := (Option.bind_some _ _).symm.trans H; with_reducible exact H2_) | with_reducible exact H | (rw [hy466]; exact H) | exact H
              have Ny466 := Aside0.mk hy466
              clear hy466
              have H' := Aside0.mk H
              clear H
              obtain ⟨HGz45, hgz45⟩ := HI0.out
              have hcz45_0 := cellS95_0 HGz45
              have hfz45_0 := blk_frozen HGz45 0
              clear HGz45 hgz45
              have p5 : 0 ≤ (x5_1 : Int) := of_decide_eq_true (by first | (with_reducible assumption) | assumption)
              have q5 : x5_1 < (x1000_1.size : Int) := of_decide_eq_true (by first | (with_reducible assumption) | assumption)
              have hx5 := bt_at x1000_1 x5_1
              replace p5 := eq_true p5
              replace q5 := eq_true q5
              go_wp2_with (first | ((with_reducible refine gate_builtin (b := .append) (xs := #[.tmp 24, .tmp 26]) rfl ?_); at_builtin; refine Kd.R_append (Kd.int .u8) w.heap.size rfl (.tmp 24) (.tmp 26) 77 5 (.int .u8 0) 1 rfl Try.underlying77 info5 rfl (by decide) (by omega) u4 x4_1 (bt x1000_1 x5_1) [.int .u8 (bt x1000_1 x5_1)] (fun _ => True) (fun _ => False) rfl rfl ?aP (fun _ hk => hk.elim) ?aF ?aO (Below.refl _ _) ?aS ?aL ?_; (case aP => exact rfl); (case aF => exact (fun _ _ => trivial)); (case aO => exact (by (with_reducible repeat (first | apply Kd.R_alloc | apply Kd.R_drewN | apply Kd.R_drew)); exact HO_4.out)); (case aS => exact (keep_size (w := w) (g := g) (row := none) (by repeat (first | (with_reducible first | exact HK.out | apply KeepBut.set_ | apply keep_drewN | apply keep_drew | apply keep_alloc | refine keep_far ?_ GW462.out _) | exact HK.out)))); (case aL => have := LMc44.out; omega); intro v467 w46 ho hb hg hat; rw [← Ny466.out] at ho; have n0_ := Aside0.mk (blk_grown (g := gb462) (o := .cells #[.int .i64 x463000_1, .int .i64 x463001_1, .string x463002_1] 33 (0, 0)) (by (with_reducible repeat (first | refine blk_drewN ?_ _ | refine blk_drew ?_ | refine blk_alloc ?_ _)); exact BK462.out) hg (Kd.R_ne HO_4.out BK462.out (by decide))); have n1_ := Aside0.mk (IsS95.grown (by repeat (first | (with_reducible first | exact HI0.out | apply IsS95.alloc | apply IsS95.drewN | apply IsS95.drew | apply IsS95.set_0 | refine IsS95.far ?_ NB0_462.out _) | exact HI0.out)) hg (IsS95.own_ne HI0.out HO_4.out (by decide))); have n2_ := Aside0.mk (below_weaken (by repeat (first | (with_reducible first | exact HB.out | apply below_alloc | apply pw_below_drewN | apply below_drew1 | refine below_set ?_ (IsS95.ge HI0.out) | refine below_set ?_ GE462.out) | exact HB.out)) HL.out hb); have n3_ := Aside0.mk (KeepBut.trans (by repeat (first | (with_reducible first | exact HK.out | apply KeepBut.set_ | apply keep_drewN | apply keep_drew | apply keep_alloc | refine keep_far ?_ GW462.out _) | exact HK.out)) (KeepBut.of_grown hg g) (Kd.R_base2 HO_4.out)); have n4_ := Aside0.mk (ho); clear BK462; clear HI0; clear HB; clear HK; clear HO_4; have BK462 := n0_; have HI0 := n1_; have HB := n2_; have HK := n3_; have HO468 := n4_; clear n0_ n1_ n2_ n3_ n4_; clear ho hb hg hat))
              go_roundg k1
              case measure => have := HK1.out; omega
              case rel => exact ⟨(y466), (wrap64 (x5_1 + 1)), (x1000_1), (x463000_1), (x463001_1), (x463002_1), (by first | rfl | (simp; done) | (simp [*]; done)), H', ⟨by have := HK1.out; omega⟩, ⟨by (with_reducible repeat (first | apply Kd.R_alloc | apply Kd.R_drewN | apply Kd.R_drew)); exact HO468.out⟩, ⟨by (with_reducible repeat (first | refine blk_drewN ?_ _ | refine blk_drew ?_ | refine blk_alloc ?_ _)); exact BK462.out⟩, ⟨by repeat (first | (with_reducible first | exact HI0.out | apply IsS95.alloc | apply IsS95.drewN | apply IsS95.drew | apply IsS95.set_0 | refine IsS95.far ?_ NB0_462.out _) | exact HI0.out)⟩, ⟨by repeat (first | (with_reducible first | exact HK.out | apply KeepBut.set_ | apply keep_drewN | apply keep_drew | apply keep_alloc | refine keep_far ?_ GW462.out _) | exact HK.out)⟩, ⟨by repeat (first | (with_reducible first | exact HB.out | apply below_alloc | apply pw_below_drewN | apply below_drew1 | refine below_set ?_ (IsS95.ge HI0.out) | refine below_set ?_ GE462.out) | exact HB.out)⟩⟩
            · rw [if_neg c44] at H
              exact absurd H (by simp)
        · rw [if_neg c4] at H
          exact absurd H (by simp)
      · rw [if_neg c3] at H
        have c3b0 : decide (x5_1 < (x1000_1.size : Int)) = false := decide_eq_false c3
        clear c3
        replace H := Option.bind_eq_some_iff.mp H
        obtain ⟨⟨t463, t464, t465⟩, A470, H⟩ := H
        replace H : (some (t463, t464, t465, 10, x1000_1)) = some (r1, r2, r3, r4, r5) := H
        have A47 := Aside0.mk A470
        clear A470
        simp only [Option.some.injEq, Prod.mk.injEq] at H
        obtain ⟨rfl, rfl, rfl, rfl, rfl⟩ := H
        obtain ⟨HGz48, hgz48⟩ := HI0.out
        have hcz48_0 := cellS95_0 HGz48
        have hfz48_0 := blk_frozen HGz48 0
        clear HGz48 hgz48
        go_wp2_with (first | ((with_reducible refine gate_callee (f := 32) rfl ?_); refine goesL_ (some 67) rfl rfl Try.func32 (by kernel_rfl) rfl #[] rfl (by (try simp only [List.map_toArray, List.map_cons, List.map_nil]); first | done | rfl | (simp only [List.length_drop, List.length_take]; rfl)) ?_; (with_reducible refine (value_Null.calls  t463 t464 t465 _ A47.out).mono ?_); rintro e w49 ⟨rfl, hb⟩; refine ⟨_, rfl, ?_⟩; have n0_ := Aside0.mk (Kd.R_below (by (with_reducible repeat (first | apply Kd.R_alloc | apply Kd.R_drewN | apply Kd.R_drew)); exact HO_4.out) hb); have n1_ := Aside0.mk (blk_below (g := gb462) (o := .cells #[.int .i64 x463000_1, .int .i64 x463001_1, .string x463002_1] 33 (0, 0)) (by (with_reducible repeat (first | refine blk_drewN ?_ _ | refine blk_drew ?_ | refine blk_alloc ?_ _)); exact BK462.out) hb); have n2_ := Aside0.mk (IsS95.below (by repeat (first | (with_reducible first | exact HI0.out | apply IsS95.alloc | apply IsS95.drewN | apply IsS95.drew | apply IsS95.set_0 | refine IsS95.far ?_ NB0_462.out _) | exact HI0.out)) hb); have n3_ := Aside0.mk (KeepBut.trans (by repeat (first | (with_reducible first | exact HK.out | apply KeepBut.set_ | apply keep_drewN | apply keep_drew | apply keep_alloc | refine keep_far ?_ GW462.out _) | exact HK.out)) (KeepBut.of_below hb g none) (.inl rfl)); have n4_ := Aside0.mk (below_step (by repeat (first | (with_reducible first | exact HB.out | apply below_alloc | apply pw_below_drewN | apply below_drew1 | refine below_set ?_ (IsS95.ge HI0.out) | refine below_set ?_ GE462.out) | exact HB.out)) hb); clear HO_4; clear BK462; clear HI0; clear HK; clear HB; have HO_4 := n0_; have BK462 := n1_; have HI0 := n2_; have HK := n3_; have HB := n4_; clear n0_ n1_ n2_ n3_ n4_; (try clear hb); (try clear hb2); (try clear hk); (try clear hi); have hnb50 := NB462_0.out; have hnc50 := NB0_462.out; have hcz51_0 : w49.cell? ⟨gb462, 0, none⟩ = some (.int .i64 x463000_1) := (blk_cell BK462.out 0).trans rfl; have hcz51_1 : w49.cell? ⟨gb462, 1, none⟩ = some (.int .i64 x463001_1) := (blk_cell BK462.out 1).trans rfl; have hcz51_2 : w49.cell? ⟨gb462, 2, none⟩ = some (.string x463002_1) := (blk_cell BK462.out 2).trans rfl; have hfz51_0 := blk_frozen BK462.out 0; have hfz51_1 := blk_frozen BK462.out 1; have hfz51_2 := blk_frozen BK462.out 2))
        refine ret_straight ?_
        refine bodyPost_ret (results_ct rfl _ _ gb462 33 #[.int .i64 t463, .int .i64 t464, .string t465] (0, 0) _ rfl (by (with_reducible repeat (first | refine blk_drewN ?_ _ | refine blk_drew ?_ | refine blk_alloc ?_ _)); refine blk_put (cs := #[.int .i64 t463, .int .i64 t464, .string x463002_1]) ?_ 2 _ rfl; (with_reducible repeat (first | refine blk_drewN ?_ _ | refine blk_drew ?_ | refine blk_alloc ?_ _)); refine blk_put (cs := #[.int .i64 t463, .int .i64 x463001_1, .string x463002_1]) ?_ 1 _ rfl; (with_reducible repeat (first | refine blk_drewN ?_ _ | refine blk_drew ?_ | refine blk_alloc ?_ _)); refine blk_put (cs := #[.int .i64 x463000_1, .int .i64 x463001_1, .string x463002_1]) ?_ 0 _ rfl; (with_reducible repeat (first | refine blk_drewN ?_ _ | refine blk_drew ?_ | refine blk_alloc ?_ _)); exact BK462.out) Try.underlying33 rfl (by kernel_rfl)) rfl ?_
        exact ⟨by first | rfl | (simp [errW_none, errW_some] <;> rfl) | (simp [*, errW_none, errW_some] <;> rfl), by repeat (first | (with_reducible first | exact HI0.out | apply IsS95.alloc | apply IsS95.drewN | apply IsS95.drew | apply IsS95.set_0 | refine IsS95.far ?_ NB0_462.out _) | exact HI0.out), by repeat (first | (with_reducible first | exact HB.out | apply below_alloc | apply pw_below_drewN | apply below_drew1 | refine below_set ?_ (IsS95.ge HI0.out) | refine below_set ?_ GE462.out) | exact HB.out), by repeat (first | (with_reducible first | exact HK.out | apply KeepBut.set_ | apply keep_drewN | apply keep_drew | apply keep_alloc | refine keep_far ?_ GW462.out _) | exact HK.out)⟩

end Go.Proofs.Ythghflgmeepnlaa.Pa
