/- What RowsJoins hangs on, part 3 of 4: our texts put together by trim.py, without what the proof does not need. -/
import Derived.Test.YthghflgmeepnlaaZJ1
import Derived.Test.YthghflgmeepnlaaZJ2
import Derived.Maps.OwnRows
import Derived.Maps.GroupsBeside
import Derived.BigRegion
import Derived.BigQuiet
import Derived.Deep.LoopGhost
import Derived.Laws.EntriesVeiled
import Derived.Lib.SliceRun
section
namespace Go.Proofs.Ythghflgmeepnlaa.Pa
open Go.RowKit Go.Proofs.YthghflgmeepnlaaW.PrintWords Go.Proofs.YthghflgmeepnlaaW.PrintLast Go.Proofs.YthghflgmeepnlaaW.PrintMore
attribute [local go_sem] max2_int max_two
set_option linter.unusedVariables false
set_option linter.unusedSimpArgs false
def cmp_isNaN_int.f (a0 : Int) : Option (Bool) := some (a0 != a0)
set_option maxHeartbeats 8000000 in
set_option maxRecDepth 100000 in
theorem cmp_isNaN_int.calls (a0 : Int) (r : Bool) (w : World) (h : cmp_isNaN_int.f a0 = some r) :
    Calls Try.prog 107 #[.int .i64 a0] w fun e w' => e = .returned (.bool r) ∧ Drawn0 w w' := by
  have H : (some (a0 != a0)) = some r := h
  clear h
  obtain rfl := Option.some.inj H
  go_enter Try.func107, Try.ntmps107
  go_wp2
  go_ret
  exact ⟨by first | rfl | (simp; done) | (simp [*]; done), by repeat (first | exact Drawn0.refl _ | apply Drawn0.step)⟩
def cmp_Compare_int.f (a0 : Int) (a1 : Int) : Option (Int) := (cmp_isNaN_int.f a0).bind fun t395 => ((cmp_isNaN_int.f a1).bind fun t396 => (if t395 = true then (if t396 = true then (some 0) else (some (-1))) else (if t396 = true then (some 1) else (if a0 < a1 then (some (-1)) else (if a0 > a1 then (some 1) else (some 0))))))
set_option maxHeartbeats 8000000 in
set_option maxRecDepth 100000 in
theorem cmp_Compare_int.calls (a0 : Int) (a1 : Int) (r : Int) (w : World) (h : cmp_Compare_int.f a0 a1 = some r) :
    Calls Try.prog 83 #[.int .i64 a0, .int .i64 a1] w fun e w' => e = .returned (.int .i64 r) ∧ Drawn0 w w' := by
  have H : ((cmp_isNaN_int.f a0).bind fun t395 => ((cmp_isNaN_int.f a1).bind fun t396 => (if t395 = true then (if t396 = true then (some 0) else (some (-1))) else (if t396 = true then (some 1) else (if a0 < a1 then (some (-1)) else (if a0 > a1 then (some 1) else (some 0))))))) = some r := h
  clear h
  replace H := Option.bind_eq_some_iff.mp H
  obtain ⟨t395, A30, H⟩ := H
  replace H : ((cmp_isNaN_int.f a1).bind fun t396 => (if t395 = true then (if t396 = true then (some 0) else (some (-1))) else (if t396 = true then (some 1) else (if a0 < a1 then (some (-1)) else (if a0 > a1 then (some 1) else (some 0)))))) = some r := H
  have A3 := Aside0.mk A30
  clear A30
  replace H := Option.bind_eq_some_iff.mp H
  obtain ⟨t396, A40, H⟩ := H
  replace H : (if t395 = true then (if t396 = true then (some 0) else (some (-1))) else (if t396 = true then (some 1) else (if a0 < a1 then (some (-1)) else (if a0 > a1 then (some 1) else (some 0))))) = some r := H
  have A4 := Aside0.mk A40
  clear A40
  by_cases c5 : t395 = true
  · subst c5
    have H1 : (if t396 = true then (some 0) else (some (-1))) = some r := by rw [if_pos rfl] at H; exact H
    clear H
    have H := H1
    clear H1
    by_cases c6 : t396 = true
    · subst c6
      have H1 : (some 0) = some r := by rw [if_pos rfl] at H; exact H
      clear H
      have H := H1
      clear H1
      obtain rfl := Option.some.inj H
      go_enter Try.func83, Try.ntmps83
      go_wp2_with (first | ((with_reducible refine gate_callee (f := 107) rfl ?_); refine goesL_ (some 8) rfl rfl Try.func107 (by kernel_rfl) rfl #[.int .i64 a0] rfl (by (try simp only [List.map_toArray, List.map_cons, List.map_nil]); first | done | rfl | (simp only [List.length_drop, List.length_take]; rfl)) ?_; (with_reducible refine (cmp_isNaN_int.calls a0 true _ A3.out).mono ?_); rintro e w' ⟨rfl, ⟨nd, rfl⟩⟩; refine ⟨_, rfl, ?_⟩) | ((with_reducible refine gate_callee (f := 107) rfl ?_); refine goesL_ (some 10) rfl rfl Try.func107 (by kernel_rfl) rfl #[.int .i64 a1] rfl (by (try simp only [List.map_toArray, List.map_cons, List.map_nil]); first | done | rfl | (simp only [List.length_drop, List.length_take]; rfl)) ?_; (with_reducible refine (cmp_isNaN_int.calls a1 true _ A4.out).mono ?_); rintro e w' ⟨rfl, ⟨nd, rfl⟩⟩; refine ⟨_, rfl, ?_⟩))
      go_ret
      exact ⟨by first | rfl | (simp; done) | (simp [*]; done), by repeat (first | exact Drawn0.refl _ | apply Drawn0.step)⟩
    · replace c6 := Bool.eq_false_iff.mpr c6
      subst c6
      have H1 : (some (-1)) = some r := by rw [if_neg (show ¬ (false = true) by decide)] at H; exact H
      clear H
      have H := H1
      clear H1
      obtain rfl := Option.some.inj H
      go_enter Try.func83, Try.ntmps83
      go_wp2_with (first | ((with_reducible refine gate_callee (f := 107) rfl ?_); refine goesL_ (some 8) rfl rfl Try.func107 (by kernel_rfl) rfl #[.int .i64 a0] rfl (by (try simp only [List.map_toArray, List.map_cons, List.map_nil]); first | done | rfl | (simp only [List.length_drop, List.length_take]; rfl)) ?_; (with_reducible refine (cmp_isNaN_int.calls a0 true _ A3.out).mono ?_); rintro e w' ⟨rfl, ⟨nd, rfl⟩⟩; refine ⟨_, rfl, ?_⟩) | ((with_reducible refine gate_callee (f := 107) rfl ?_); refine goesL_ (some 10) rfl rfl Try.func107 (by kernel_rfl) rfl #[.int .i64 a1] rfl (by (try simp only [List.map_toArray, List.map_cons, List.map_nil]); first | done | rfl | (simp only [List.length_drop, List.length_take]; rfl)) ?_; (with_reducible refine (cmp_isNaN_int.calls a1 false _ A4.out).mono ?_); rintro e w' ⟨rfl, ⟨nd, rfl⟩⟩; refine ⟨_, rfl, ?_⟩))
      go_ret
      exact ⟨by first | rfl | (simp; done) | (simp [*]; done), by repeat (first | exact Drawn0.refl _ | apply Drawn0.step)⟩
  · replace c5 := Bool.eq_false_iff.mpr c5
    subst c5
    have H1 : (if t396 = true then (some 1) else (if a0 < a1 then (some (-1)) else (if a0 > a1 then (some 1) else (some 0)))) = some r := by rw [if_neg (show ¬ (false = true) by decide)] at H; exact H
    clear H
    have H := H1
    clear H1
    by_cases c7 : t396 = true
    · subst c7
      have H1 : (some 1) = some r := by rw [if_pos rfl] at H; exact H
      clear H
      have H := H1
      clear H1
      obtain rfl := Option.some.inj H
      go_enter Try.func83, Try.ntmps83
      go_wp2_with (first | ((with_reducible refine gate_callee (f := 107) rfl ?_); refine goesL_ (some 8) rfl rfl Try.func107 (by kernel_rfl) rfl #[.int .i64 a0] rfl (by (try simp only [List.map_toArray, List.map_cons, List.map_nil]); first | done | rfl | (simp only [List.length_drop, List.length_take]; rfl)) ?_; (with_reducible refine (cmp_isNaN_int.calls a0 false _ A3.out).mono ?_); rintro e w' ⟨rfl, ⟨nd, rfl⟩⟩; refine ⟨_, rfl, ?_⟩) | ((with_reducible refine gate_callee (f := 107) rfl ?_); refine goesL_ (some 10) rfl rfl Try.func107 (by kernel_rfl) rfl #[.int .i64 a1] rfl (by (try simp only [List.map_toArray, List.map_cons, List.map_nil]); first | done | rfl | (simp only [List.length_drop, List.length_take]; rfl)) ?_; (with_reducible refine (cmp_isNaN_int.calls a1 true _ A4.out).mono ?_); rintro e w' ⟨rfl, ⟨nd, rfl⟩⟩; refine ⟨_, rfl, ?_⟩))
      go_ret
      exact ⟨by first | rfl | (simp; done) | (simp [*]; done), by repeat (first | exact Drawn0.refl _ | apply Drawn0.step)⟩
    · replace c7 := Bool.eq_false_iff.mpr c7
      subst c7
      have H1 : (if a0 < a1 then (some (-1)) else (if a0 > a1 then (some 1) else (some 0))) = some r := by rw [if_neg (show ¬ (false = true) by decide)] at H; exact H
      clear H
      have H := H1
      clear H1
      by_cases c8 : a0 < a1
      · rw [if_pos c8] at H
        have c8b0 : decide (a0 < a1) = true := decide_eq_true c8
        clear c8
        obtain rfl := Option.some.inj H
        go_enter Try.func83, Try.ntmps83
        go_wp2_with (first | ((with_reducible refine gate_callee (f := 107) rfl ?_); refine goesL_ (some 8) rfl rfl Try.func107 (by kernel_rfl) rfl #[.int .i64 a0] rfl (by (try simp only [List.map_toArray, List.map_cons, List.map_nil]); first | done | rfl | (simp only [List.length_drop, List.length_take]; rfl)) ?_; (with_reducible refine (cmp_isNaN_int.calls a0 false _ A3.out).mono ?_); rintro e w' ⟨rfl, ⟨nd, rfl⟩⟩; refine ⟨_, rfl, ?_⟩) | ((with_reducible refine gate_callee (f := 107) rfl ?_); refine goesL_ (some 10) rfl rfl Try.func107 (by kernel_rfl) rfl #[.int .i64 a1] rfl (by (try simp only [List.map_toArray, List.map_cons, List.map_nil]); first | done | rfl | (simp only [List.length_drop, List.length_take]; rfl)) ?_; (with_reducible refine (cmp_isNaN_int.calls a1 false _ A4.out).mono ?_); rintro e w' ⟨rfl, ⟨nd, rfl⟩⟩; refine ⟨_, rfl, ?_⟩))
        go_ret
        exact ⟨by first | rfl | (simp; done) | (simp [*]; done), by repeat (first | exact Drawn0.refl _ | apply Drawn0.step)⟩
      · rw [if_neg c8] at H
        have c8b0 : decide (a0 < a1) = false := decide_eq_false c8
        clear c8
        by_cases c9 : a0 > a1
        · rw [if_pos c9] at H
          have c9b0 : decide (a1 < a0) = true := decide_eq_true c9
          clear c9
          obtain rfl := Option.some.inj H
          go_enter Try.func83, Try.ntmps83
          go_wp2_with (first | ((with_reducible refine gate_callee (f := 107) rfl ?_); refine goesL_ (some 8) rfl rfl Try.func107 (by kernel_rfl) rfl #[.int .i64 a0] rfl (by (try simp only [List.map_toArray, List.map_cons, List.map_nil]); first | done | rfl | (simp only [List.length_drop, List.length_take]; rfl)) ?_; (with_reducible refine (cmp_isNaN_int.calls a0 false _ A3.out).mono ?_); rintro e w' ⟨rfl, ⟨nd, rfl⟩⟩; refine ⟨_, rfl, ?_⟩) | ((with_reducible refine gate_callee (f := 107) rfl ?_); refine goesL_ (some 10) rfl rfl Try.func107 (by kernel_rfl) rfl #[.int .i64 a1] rfl (by (try simp only [List.map_toArray, List.map_cons, List.map_nil]); first | done | rfl | (simp only [List.length_drop, List.length_take]; rfl)) ?_; (with_reducible refine (cmp_isNaN_int.calls a1 false _ A4.out).mono ?_); rintro e w' ⟨rfl, ⟨nd, rfl⟩⟩; refine ⟨_, rfl, ?_⟩))
          go_ret
          exact ⟨by first | rfl | (simp; done) | (simp [*]; done), by repeat (first | exact Drawn0.refl _ | apply Drawn0.step)⟩
        · rw [if_neg c9] at H
          have c9b0 : decide (a1 < a0) = false := decide_eq_false c9
          clear c9
          obtain rfl := Option.some.inj H
          go_enter Try.func83, Try.ntmps83
          go_wp2_with (first | ((with_reducible refine gate_callee (f := 107) rfl ?_); refine goesL_ (some 8) rfl rfl Try.func107 (by kernel_rfl) rfl #[.int .i64 a0] rfl (by (try simp only [List.map_toArray, List.map_cons, List.map_nil]); first | done | rfl | (simp only [List.length_drop, List.length_take]; rfl)) ?_; (with_reducible refine (cmp_isNaN_int.calls a0 false _ A3.out).mono ?_); rintro e w' ⟨rfl, ⟨nd, rfl⟩⟩; refine ⟨_, rfl, ?_⟩) | ((with_reducible refine gate_callee (f := 107) rfl ?_); refine goesL_ (some 10) rfl rfl Try.func107 (by kernel_rfl) rfl #[.int .i64 a1] rfl (by (try simp only [List.map_toArray, List.map_cons, List.map_nil]); first | done | rfl | (simp only [List.length_drop, List.length_take]; rfl)) ?_; (with_reducible refine (cmp_isNaN_int.calls a1 false _ A4.out).mono ?_); rintro e w' ⟨rfl, ⟨nd, rfl⟩⟩; refine ⟨_, rfl, ?_⟩))
          go_ret
          exact ⟨by first | rfl | (simp; done) | (simp [*]; done), by repeat (first | exact Drawn0.refl _ | apply Drawn0.step)⟩
def cmp_Or_int.l0 : Nat → Int → List Int → Int → Int → Option (Int)
  | 0, _, _, _, _ => none
  | k + 1, x3, x6, x7, x8 => if x8 < x7 then (if 0 ≤ x8 then (if x8 < (x6.length : Int) then (if (rd x6 x8) = x3 then (cmp_Or_int.l0 k x3 x6 x7 (wrap64 (x8 + 1))) else (some (rd x6 x8))) else (none)) else (none)) else (some x3)
def cmp_Or_int.f (k : Nat) (l0 : List Int) : Option (Int) := cmp_Or_int.l0 k 0 l0 (l0.length : Int) 0
set_option maxHeartbeats 8000000 in
set_option maxRecDepth 100000 in
theorem cmp_Or_int.calls (k : Nat) (A0 : Option Addr) (c0 : Nat) (l0 : List Int) (r : Int) (w : World) (hr0 : Kd.C (Kd.int .i64) w A0 l0.length l0) (hc0 : l0.length ≤ c0) (h : cmp_Or_int.f k l0 = some r) :
    Calls Try.prog 86 #[.slice A0 l0.length c0] w fun e w' => e = .returned (.int .i64 r) ∧ Drawn0 w w' := by
  have HR0 := Aside0.mk hr0
  have HC0 := Aside0.mk hc0
  clear hr0 hc0
  have H : (cmp_Or_int.l0 k 0 l0 (l0.length : Int) 0) = some r := h
  clear h
  have H' := Aside0.mk H
  clear H
  go_enter Try.func86, Try.ntmps86
  go_wp2
  go_loopg [8] k (fun kq v8 w' => ∃ (x8_1 : Int), v8 = .int .i64 x8_1 ∧ Aside0 (cmp_Or_int.l0 kq 0 l0 (l0.length : Int) x8_1 = some r) ∧ Aside0 (kq ≤ k) ∧ Drawn0 w w')
  case atStart => exact ⟨(0), (by first | rfl | (simp; done) | (simp [*]; done)), H', ⟨Nat.le_refl _⟩, by repeat (first | exact Drawn0.refl _ | apply Drawn0.step)⟩
  case round =>
    clear H'
    obtain ⟨x8_1, rfl, HA, HK1, ⟨m1, rfl⟩⟩ := hrel
    cases gk with
    | zero => exact absurd HA.out (by simp [cmp_Or_int.l0])
    | succ k1 =>
      have H := HA.out
      clear HA
      simp only [cmp_Or_int.l0] at H
      by_cases c2 : x8_1 < (l0.length : Int)
      · rw [if_pos c2] at H
        have c2b0 : decide (x8_1 < (l0.length : Int)) = true := decide_eq_true c2
        clear c2
        by_cases c3 : 0 ≤ x8_1
        · rw [if_pos c3] at H
          have c3b0 : decide (0 ≤ x8_1) = true := decide_eq_true c3
          clear c3
          by_cases c4 : x8_1 < (l0.length : Int)
          · rw [if_pos c4] at H
            have c4b0 : decide (x8_1 < (l0.length : Int)) = true := decide_eq_true c4
            clear c4
            by_cases c5 : (rd l0 x8_1) = 0
            · rw [if_pos c5] at H
              have c5b0 : ((rd l0 x8_1) == 0) = true := beq_iff_eq.mpr c5
              have c5b1 : ((rd l0 x8_1) != 0) = false := bne_eq_false_iff_eq.mpr c5
              clear c5
              have H' := Aside0.mk H
              clear H
              have p397 : 0 ≤ (x8_1 : Int) := of_decide_eq_true (by first | (with_reducible assumption) | assumption)
              have q397 : x8_1 < (l0.length : Int) := of_decide_eq_true (by first | (with_reducible assumption) | assumption)
              obtain ⟨ad397, e397, hx397_0⟩ := Kd.at_int HR0.out x8_1 p397 q397
              cases e397
              replace p397 := eq_true p397
              replace q397 := eq_true q397
              go_wp2
              go_roundg k1
              case measure => have := HK1.out; omega
              case rel => exact ⟨(wrap64 (x8_1 + 1)), (by first | rfl | (simp; done) | (simp [*]; done)), H', ⟨by have := HK1.out; omega⟩, by repeat (first | exact Drawn0.refl _ | apply Drawn0.step)⟩
            · rw [if_neg c5] at H
              have c5b0 : ((rd l0 x8_1) == 0) = false := beq_eq_false_iff_ne.mpr c5
              have c5b1 : ((rd l0 x8_1) != 0) = true := bne_iff_ne.mpr c5
              obtain rfl := Option.some.inj H
              have p397 : 0 ≤ (x8_1 : Int) := of_decide_eq_true (by first | (with_reducible assumption) | assumption)
              have q397 : x8_1 < (l0.length : Int) := of_decide_eq_true (by first | (with_reducible assumption) | assumption)
              obtain ⟨ad397, e397, hx397_0⟩ := Kd.at_int HR0.out x8_1 p397 q397
              cases e397
              replace p397 := eq_true p397
              replace q397 := eq_true q397
              go_wp2
              go_ret
              exact ⟨by first | rfl | (simp; done) | (simp [*]; done), by repeat (first | exact Drawn0.refl _ | apply Drawn0.step)⟩
          · rw [if_neg c4] at H
            exact absurd H (by simp)
        · rw [if_neg c3] at H
          exact absurd H (by simp)
      · rw [if_neg c2] at H
        have c2b0 : decide (x8_1 < (l0.length : Int)) = false := decide_eq_false c2
        clear c2
        obtain rfl := Option.some.inj H
        go_wp2
        go_ret
        exact ⟨by first | rfl | (simp; done) | (simp [*]; done), by repeat (first | exact Drawn0.refl _ | apply Drawn0.step)⟩
def value_Order.f (k : Nat) (a0_0 : Int) (a0_1 : Int) (a0_2 : ByteArray) (a1_0 : Int) (a1_1 : Int) (a1_2 : ByteArray) : Option (Int) := (cmp_Compare_int.f a0_0 a1_0).bind fun t400 => ((cmp_Compare_int.f a0_1 a1_1).bind fun t401 => ((cmp_Compare_string.f a0_2 a1_2).bind fun t402 => ((cmp_Or_int.f k (([t400, t401, t402] : List Int))).bind fun t406 => (some t406))))
def value_Order.T1 : Bool × List (List Nat × List Nat) := (true, [([], []), ([0], [0]), ([], []), ([2], [2]), ([1, 3], [1, 3]), ([], []), ([5], [5]), ([], []), ([7], [7]), ([6, 8, 4], [6, 8]), ([], []), ([10], [10]), ([], []), ([12], [12]), ([11, 13, 9], [11, 13]), ([4, 9, 14], [4, 9, 14]), ([15, 14], [15]), ([16, 16, 0, 1, 2, 3, 4, 5, 6, 7, 8, 9, 10, 11, 12, 13, 14, 15, 16], [16])])
def value_Order.B1 : List Nat := [0, 1, 0, 4, 15, 0, 32, 0, 128, 511, 0, 1024, 0, 4096, 16383, 32767, 65535, 131071]
theorem value_Order.tab1 : rtab .any (opsOf Try.f50 1) = value_Order.T1 := by kernel_rfl
theorem value_Order.bits1 : waitsOk value_Order.T1.2 value_Order.B1 = true := by kernel_rfl
set_option maxHeartbeats 8000000 in
set_option maxRecDepth 100000 in
theorem value_Order.calls (k : Nat) (a0_0 : Int) (a0_1 : Int) (a0_2 : ByteArray) (a1_0 : Int) (a1_1 : Int) (a1_2 : ByteArray) (r : Int) (w : World) (h : value_Order.f k a0_0 a0_1 a0_2 a1_0 a1_1 a1_2 = some r) :
    Calls Try.prog 50 #[.agg #[.int .i64 a0_0, .int .i64 a0_1, .string a0_2], .agg #[.int .i64 a1_0, .int .i64 a1_1, .string a1_2]] w fun e w' => e = .returned (.int .i64 r) ∧ Below w.heap.size w w' := by
  have hu33 := Try.underlying33
  have HB := Aside0.mk (Below.refl w.heap.size w)
  have H : ((cmp_Compare_int.f a0_0 a1_0).bind fun t400 => ((cmp_Compare_int.f a0_1 a1_1).bind fun t401 => ((cmp_Compare_string.f a0_2 a1_2).bind fun t402 => ((cmp_Or_int.f k (([t400, t401, t402] : List Int))).bind fun t406 => (some t406))))) = some r := h
  clear h
  replace H := Option.bind_eq_some_iff.mp H
  obtain ⟨t400, A30, H⟩ := H
  replace H : ((cmp_Compare_int.f a0_1 a1_1).bind fun t401 => ((cmp_Compare_string.f a0_2 a1_2).bind fun t402 => ((cmp_Or_int.f k (([t400, t401, t402] : List Int))).bind fun t406 => (some t406)))) = some r := H
  have A3 := Aside0.mk A30
  clear A30
  replace H := Option.bind_eq_some_iff.mp H
  obtain ⟨t401, A40, H⟩ := H
  replace H : ((cmp_Compare_string.f a0_2 a1_2).bind fun t402 => ((cmp_Or_int.f k (([t400, t401, t402] : List Int))).bind fun t406 => (some t406))) = some r := H
  have A4 := Aside0.mk A40
  clear A40
  replace H := Option.bind_eq_some_iff.mp H
  obtain ⟨t402, A50, H⟩ := H
  replace H : ((cmp_Or_int.f k (([t400, t401, t402] : List Int))).bind fun t406 => (some t406)) = some r := H
  have A5 := Aside0.mk A50
  clear A50
  obtain ⟨y403, hy403⟩ : ∃ y_ : List Int, y_ = (([t400, t401, t402] : List Int)) := ⟨_, rfl⟩
  replace H : ((cmp_Or_int.f k y403).bind fun t406 => (some t406)) = some r := by first | (rw [hy403]; with_reducible exact H) | (have H2_ := (Option.bind_some _ _).symm.trans H; rw [hy403]; with_reducible exact H2_) | (have H2_ := (Option.bind_some _ _).symm.trans H; with_reducible exact H2_) | with_reducible exact H | (rw [hy403]; exact H) | exact H
  have Ny403 := Aside0.mk hy403
  clear hy403
  replace H := Option.bind_eq_some_iff.mp H
  obtain ⟨t406, A60, H⟩ := H
  replace H : (some t406) = some r := H
  have A6 := Aside0.mk A60
  clear A60
  obtain rfl := Option.some.inj H
  go_enter Try.func50, Try.ntmps50
  try go_wp2_with (first | ((with_reducible refine gate_dst (N := 2) rfl ?_); refine box_event ?hg (N := 2) ?hd (cs := #[.int .i64 a0_0, .int .i64 a0_1, .string a0_2]) (t := 33) ?hr ?_; (case hd => rfl); (case hg => rfl); (case hr => first | (go_simp; done) | (go_simp; rfl)); intro gb398 hg w7 hbox hb; have n0_ := Aside0.mk (below_step (by repeat (first | (with_reducible first | exact HB.out | apply below_alloc | apply pw_below_drewN | apply below_drew1) | exact HB.out)) hb); have n1_ := Aside0.mk (hbox); have n2_ := Aside0.mk ((by rw [hg]; exact (below_size (by repeat (first | (with_reducible first | exact HB.out | apply below_alloc | apply pw_below_drewN | apply below_drew1) | exact HB.out))) : w.heap.size ≤ gb398)); have n3_ := Aside0.mk ((by rw [hg]; exact (below_size (by repeat (first | (with_reducible first | exact HB.out | apply below_alloc | apply pw_below_drewN | apply below_drew1) | exact HB.out))) : w.heap.size ≤ gb398)); clear HB; have HB := n0_; have BK398 := n1_; have GW398 := n2_; have GE398 := n3_; clear n0_ n1_ n2_ n3_; clear hb hbox hg) | ((with_reducible refine gate_dst (N := 3) rfl ?_); refine box_event ?hg (N := 3) ?hd (cs := #[.int .i64 a1_0, .int .i64 a1_1, .string a1_2]) (t := 33) ?hr ?_; (case hd => rfl); (case hg => rfl); (case hr => first | (go_simp; done) | (go_simp; rfl)); intro gb399 hg w8 hbox hb; have n0_ := Aside0.mk (blk_below (g := gb398) (o := .cells #[.int .i64 a0_0, .int .i64 a0_1, .string a0_2] 33 (0, 0)) (by (with_reducible repeat (first | refine blk_drewN ?_ _ | refine blk_drew ?_ | refine blk_alloc ?_ _)); exact BK398.out) hb); have n1_ := Aside0.mk (below_step (by repeat (first | (with_reducible first | exact HB.out | apply below_alloc | apply pw_below_drewN | apply below_drew1 | refine below_set ?_ GE398.out) | exact HB.out)) hb); have n2_ := Aside0.mk (hbox); have n3_ := Aside0.mk ((by rw [hg]; exact (below_size (by repeat (first | (with_reducible first | exact HB.out | apply below_alloc | apply pw_below_drewN | apply below_drew1 | refine below_set ?_ GE398.out) | exact HB.out))) : w.heap.size ≤ gb399)); have n4_ := Aside0.mk ((by rw [hg]; exact (below_size (by repeat (first | (with_reducible first | exact HB.out | apply below_alloc | apply pw_below_drewN | apply below_drew1 | refine below_set ?_ GE398.out) | exact HB.out))) : w.heap.size ≤ gb399)); have n5_ := Aside0.mk ((by rw [hg]; exact Nat.ne_of_lt (blk_lt (g := gb398) (o := .cells #[.int .i64 a0_0, .int .i64 a0_1, .string a0_2] 33 (0, 0)) (by (with_reducible repeat (first | refine blk_drewN ?_ _ | refine blk_drew ?_ | refine blk_alloc ?_ _)); exact BK398.out)) : gb398 ≠ gb399)); have n6_ := Aside0.mk ((by rw [hg]; exact Nat.ne_of_gt (blk_lt (g := gb398) (o := .cells #[.int .i64 a0_0, .int .i64 a0_1, .string a0_2] 33 (0, 0)) (by (with_reducible repeat (first | refine blk_drewN ?_ _ | refine blk_drew ?_ | refine blk_alloc ?_ _)); exact BK398.out)) : gb399 ≠ gb398)); clear BK398; clear HB; have BK398 := n0_; have HB := n1_; have BK399 := n2_; have GW399 := n3_; have GE399 := n4_; have NB398_399 := n5_; have NB399_398 := n6_; clear n0_ n1_ n2_ n3_ n4_ n5_ n6_; clear hb hbox hg))
  have n0_ := Aside0.mk (blk_drew BK398.out)
  have n1_ := Aside0.mk (blk_drew BK399.out)
  have n2_ := Aside0.mk (below_drew1 HB.out)
  clear BK398
  clear BK399
  clear HB
  have BK398 := n0_
  have BK399 := n1_
  have HB := n2_
  clear n0_ n1_ n2_
  refine start_ (n := 18) (S := fun w' => w'.cell? ⟨gb398, 0, none⟩ = some (.int .i64 a0_0) ∧ w'.cell? ⟨gb398, 1, none⟩ = some (.int .i64 a0_1) ∧ w'.cell? ⟨gb398, 2, none⟩ = some (.string a0_2) ∧ w'.cell? ⟨gb399, 0, none⟩ = some (.int .i64 a1_0) ∧ w'.cell? ⟨gb399, 1, none⟩ = some (.int .i64 a1_1) ∧ w'.cell? ⟨gb399, 2, none⟩ = some (.string a1_2)) (ds := []) #[false, false, false, false, false, false, false, false, false, false, false, false, false, false, false, false, false, false] (by kernel_rfl) rfl rfl ⟨(blk_cell BK398.out 0).trans rfl, (blk_cell BK398.out 1).trans rfl, (blk_cell BK398.out 2).trans rfl, (blk_cell BK399.out 0).trans rfl, (blk_cell BK399.out 1).trans rfl, (blk_cell BK399.out 2).trans rfl⟩ (fun hHeld => ?_); refine with_tabW value_Order.tab1 value_Order.bits1 (fun HT_ HW_ => ?_)
  generalize w8.drew = w9 at BK398 BK399 HB hHeld ⊢
  refine pure_ (i := 0) (N := some 5) (v := ?_) (a' := ?_) #[true, false, false, false, false, false, false, false, false, false, false, false, false, false, false, false, false, false] rfl rfl (any_of HT_.out (by kernel_rfl)) (fun _ _ _ h => h) (Or.inl ⟨by rfl, ?_⟩) ?_ ?_
  rotate_left
  · intro w'
    go_simp
    with_reducible rfl
  rotate_left
  · simp only [Act.put, List.setIfInBounds_toArray, List.set_cons_zero, List.set_cons_succ, i64_w, i32_w]
    rfl
  refine pure_ (i := 2) (N := some 7) (v := ?_) (a' := ?_) #[true, false, true, false, false, false, false, false, false, false, false, false, false, false, false, false, false, false] rfl rfl (any_of HT_.out (by kernel_rfl)) (fun _ _ _ h => h) (Or.inl ⟨by rfl, ?_⟩) ?_ ?_
  rotate_left
  · intro w'
    go_simp
    with_reducible rfl
  rotate_left
  · simp only [Act.put, List.setIfInBounds_toArray, List.set_cons_zero, List.set_cons_succ, i64_w, i32_w]
    rfl
  refine pure_ (i := 5) (N := some 10) (v := ?_) (a' := ?_) #[true, false, true, false, false, true, false, false, false, false, false, false, false, false, false, false, false, false] rfl rfl (any_of HT_.out (by kernel_rfl)) (fun _ _ _ h => h) (Or.inl ⟨by rfl, ?_⟩) ?_ ?_
  rotate_left
  · intro w'
    go_simp
    with_reducible rfl
  rotate_left
  · simp only [Act.put, List.setIfInBounds_toArray, List.set_cons_zero, List.set_cons_succ, i64_w, i32_w]
    rfl
  refine pure_ (i := 7) (N := some 12) (v := ?_) (a' := ?_) #[true, false, true, false, false, true, false, true, false, false, false, false, false, false, false, false, false, false] rfl rfl (any_of HT_.out (by kernel_rfl)) (fun _ _ _ h => h) (Or.inl ⟨by rfl, ?_⟩) ?_ ?_
  rotate_left
  · intro w'
    go_simp
    with_reducible rfl
  rotate_left
  · simp only [Act.put, List.setIfInBounds_toArray, List.set_cons_zero, List.set_cons_succ, i64_w, i32_w]
    rfl
  refine pure_ (i := 10) (N := some 15) (v := ?_) (a' := ?_) #[true, false, true, false, false, true, false, true, false, false, true, false, false, false, false, false, false, false] rfl rfl (any_of HT_.out (by kernel_rfl)) (fun _ _ _ h => h) (Or.inl ⟨by rfl, ?_⟩) ?_ ?_
  rotate_left
  · intro w'
    go_simp
    with_reducible rfl
  rotate_left
  · simp only [Act.put, List.setIfInBounds_toArray, List.set_cons_zero, List.set_cons_succ, i64_w, i32_w]
    rfl
  refine pure_ (i := 12) (N := some 17) (v := ?_) (a' := ?_) #[true, false, true, false, false, true, false, true, false, false, true, false, true, false, false, false, false, false] rfl rfl (any_of HT_.out (by kernel_rfl)) (fun _ _ _ h => h) (Or.inl ⟨by rfl, ?_⟩) ?_ ?_
  rotate_left
  · intro w'
    go_simp
    with_reducible rfl
  rotate_left
  · simp only [Act.put, List.setIfInBounds_toArray, List.set_cons_zero, List.set_cons_succ, i64_w, i32_w]
    rfl
  refine take_ (i := 1) (N := some 6) (v := ?_) (a' := ?_) #[true, true, true, false, false, true, false, true, false, false, true, false, true, false, false, false, false, false] rfl rfl (take_ofW HT_.out HW_.out (by kernel_rfl)) (fun _ _ _ h => h) (Or.inl ⟨by rfl, ?_⟩) hHeld ?_ ?_
  rotate_left
  · rintro w' ⟨s0, s1, s2, s3, s4, s5⟩
    go_simp
    with_reducible rfl
  rotate_left
  · simp only [Act.put, List.setIfInBounds_toArray, List.set_cons_zero, List.set_cons_succ, i64_w, i32_w]
    rfl
  refine take_ (i := 3) (N := some 8) (v := ?_) (a' := ?_) #[true, true, true, true, false, true, false, true, false, false, true, false, true, false, false, false, false, false] rfl rfl (take_ofW HT_.out HW_.out (by kernel_rfl)) (fun _ _ _ h => h) (Or.inl ⟨by rfl, ?_⟩) hHeld ?_ ?_
  rotate_left
  · rintro w' ⟨s0, s1, s2, s3, s4, s5⟩
    go_simp
    with_reducible rfl
  rotate_left
  · simp only [Act.put, List.setIfInBounds_toArray, List.set_cons_zero, List.set_cons_succ, i64_w, i32_w]
    rfl
  refine take_ (i := 6) (N := some 11) (v := ?_) (a' := ?_) #[true, true, true, true, false, true, true, true, false, false, true, false, true, false, false, false, false, false] rfl rfl (take_ofW HT_.out HW_.out (by kernel_rfl)) (fun _ _ _ h => h) (Or.inl ⟨by rfl, ?_⟩) hHeld ?_ ?_
  rotate_left
  · rintro w' ⟨s0, s1, s2, s3, s4, s5⟩
    go_simp
    with_reducible rfl
  rotate_left
  · simp only [Act.put, List.setIfInBounds_toArray, List.set_cons_zero, List.set_cons_succ, i64_w, i32_w]
    rfl
  refine take_ (i := 8) (N := some 13) (v := ?_) (a' := ?_) #[true, true, true, true, false, true, true, true, true, false, true, false, true, false, false, false, false, false] rfl rfl (take_ofW HT_.out HW_.out (by kernel_rfl)) (fun _ _ _ h => h) (Or.inl ⟨by rfl, ?_⟩) hHeld ?_ ?_
  rotate_left
  · rintro w' ⟨s0, s1, s2, s3, s4, s5⟩
    go_simp
    with_reducible rfl
  rotate_left
  · simp only [Act.put, List.setIfInBounds_toArray, List.set_cons_zero, List.set_cons_succ, i64_w, i32_w]
    rfl
  refine take_ (i := 11) (N := some 16) (v := ?_) (a' := ?_) #[true, true, true, true, false, true, true, true, true, false, true, true, true, false, false, false, false, false] rfl rfl (take_ofW HT_.out HW_.out (by kernel_rfl)) (fun _ _ _ h => h) (Or.inl ⟨by rfl, ?_⟩) hHeld ?_ ?_
  rotate_left
  · rintro w' ⟨s0, s1, s2, s3, s4, s5⟩
    go_simp
    with_reducible rfl
  rotate_left
  · simp only [Act.put, List.setIfInBounds_toArray, List.set_cons_zero, List.set_cons_succ, i64_w, i32_w]
    rfl
  refine take_ (i := 13) (N := some 18) (v := ?_) (a' := ?_) #[true, true, true, true, false, true, true, true, true, false, true, true, true, true, false, false, false, false] rfl rfl (take_ofW HT_.out HW_.out (by kernel_rfl)) (fun _ _ _ h => h) (Or.inl ⟨by rfl, ?_⟩) hHeld ?_ ?_
  rotate_left
  · rintro w' ⟨s0, s1, s2, s3, s4, s5⟩
    go_simp
    with_reducible rfl
  rotate_left
  · simp only [Act.put, List.setIfInBounds_toArray, List.set_cons_zero, List.set_cons_succ, i64_w, i32_w]
    rfl
  refine one_ (i := 4) (N := some 9) #[true, true, true, true, true, true, true, true, true, false, true, true, true, true, false, false, false, false] rfl rfl (one_of HT_.out (by kernel_rfl)) (by decide) (fun K hK => ?_)
  refine goes_ Try.func83 (by kernel_rfl) rfl #[.int .i64 a0_0, .int .i64 a1_0] (by rfl) rfl rfl (by (try simp only [List.map_toArray, List.map_cons, List.map_nil]); first | done | rfl | (simp only [List.length_drop, List.length_take]; rfl)) ?_
  with_reducible refine (cmp_Compare_int.calls a0_0 a1_0 t400 _ A3.out).mono ?_
  rintro e w' ⟨rfl, ⟨nd, rfl⟩⟩
  refine ⟨_, rfl, ?_⟩
  refine hK.out _ _ ⟨(blk_cell BK398.out 0).trans rfl, (blk_cell BK398.out 1).trans rfl, (blk_cell BK398.out 2).trans rfl, (blk_cell BK399.out 0).trans rfl, (blk_cell BK399.out 1).trans rfl, (blk_cell BK399.out 2).trans rfl⟩ (fun hHeld => ?_)
  clear hK K
  refine norm_ (a' := ?_) ?_ ?_
  rotate_left
  · show Act.put _ (some 9) _ = _
    simp only [Act.put, List.setIfInBounds_toArray, List.set_cons_zero, List.set_cons_succ, i64_w, i32_w]
    rfl
  refine one_ (i := 9) (N := some 14) #[true, true, true, true, true, true, true, true, true, true, true, true, true, true, false, false, false, false] rfl rfl (one_of HT_.out (by kernel_rfl)) (by decide) (fun K hK => ?_)
  refine goes_ Try.func83 (by kernel_rfl) rfl #[.int .i64 a0_1, .int .i64 a1_1] (by rfl) rfl rfl (by (try simp only [List.map_toArray, List.map_cons, List.map_nil]); first | done | rfl | (simp only [List.length_drop, List.length_take]; rfl)) ?_
  with_reducible refine (cmp_Compare_int.calls a0_1 a1_1 t401 _ A4.out).mono ?_
  rintro e w' ⟨rfl, ⟨nd, rfl⟩⟩
  refine ⟨_, rfl, ?_⟩
  refine hK.out _ _ ⟨(blk_cell BK398.out 0).trans rfl, (blk_cell BK398.out 1).trans rfl, (blk_cell BK398.out 2).trans rfl, (blk_cell BK399.out 0).trans rfl, (blk_cell BK399.out 1).trans rfl, (blk_cell BK399.out 2).trans rfl⟩ (fun hHeld => ?_)
  clear hK K
  refine norm_ (a' := ?_) ?_ ?_
  rotate_left
  · show Act.put _ (some 14) _ = _
    simp only [Act.put, List.setIfInBounds_toArray, List.set_cons_zero, List.set_cons_succ, i64_w, i32_w]
    rfl
  refine one_ (i := 14) (N := some 19) #[true, true, true, true, true, true, true, true, true, true, true, true, true, true, true, false, false, false] rfl rfl (one_of HT_.out (by kernel_rfl)) (by decide) (fun K hK => ?_)
  refine goes_ Try.func87 (by kernel_rfl) rfl #[.string a0_2, .string a1_2] (by rfl) rfl rfl (by (try simp only [List.map_toArray, List.map_cons, List.map_nil]); first | done | rfl | (simp only [List.length_drop, List.length_take]; rfl)) ?_
  with_reducible refine (cmp_Compare_string.calls a0_2 a1_2 t402 _ A5.out).mono ?_
  rintro e w' ⟨rfl, ⟨nd, rfl⟩⟩
  refine ⟨_, rfl, ?_⟩
  refine hK.out _ _ ⟨(blk_cell BK398.out 0).trans rfl, (blk_cell BK398.out 1).trans rfl, (blk_cell BK398.out 2).trans rfl, (blk_cell BK399.out 0).trans rfl, (blk_cell BK399.out 1).trans rfl, (blk_cell BK399.out 2).trans rfl⟩ (fun hHeld => ?_)
  clear hK K
  refine norm_ (a' := ?_) ?_ ?_
  rotate_left
  · show Act.put _ (some 19) _ = _
    simp only [Act.put, List.setIfInBounds_toArray, List.set_cons_zero, List.set_cons_succ, i64_w, i32_w]
    rfl
  refine one_ (i := 15) (N := some 20) #[true, true, true, true, true, true, true, true, true, true, true, true, true, true, true, true, false, false] rfl rfl (one_of HT_.out (by kernel_rfl)) (by decide) (fun K hK => ?_)
  refine Kd.R_lit_step (Kd.int .i64) _ 3 ?hg (N := 20) ?hd (xs := ([t400, t401, t402] : List Int)) (inner := [.int .i64 t400, .int .i64 t401, .int .i64 t402]) (ok := fun _ => True) (okp := fun _ => True) ?hr ?hp (fun _ hk => hk) trivial (Below.refl _ _) (Nat.le_refl _) (by simp) ?_; (case hd => rfl); (case hg => rfl); (case hr => first | (go_simp; done) | (go_simp; rfl)); (case hp => exact (Reps.one (show Kd.M (Kd.int .i64) _ _ _ t400 [.int .i64 t400] from rfl) (Reps.one (show Kd.M (Kd.int .i64) _ _ _ t401 [.int .i64 t401] from rfl) (Reps.one (show Kd.M (Kd.int .i64) _ _ _ t402 [.int .i64 t402] from rfl) (Reps.none _ _)))))
  intro v404 w10 ho11 hb hg_ hnew_
  clear hg_ hnew_
  (first | rw [← Ny403.out] at ho11 | (simp only [Int.reduceToNat] at ho11; rw [← Ny403.out] at ho11))
  have n0_ := Aside0.mk (Kd.R_lower ho11 (below_size (by repeat (first | (with_reducible first | exact HB.out | apply below_alloc | apply pw_below_drewN | apply below_drew1 | refine below_set ?_ GE398.out | refine below_set ?_ GE399.out) | exact HB.out))))
  have n1_ := Aside0.mk (blk_below (g := gb398) (o := .cells #[.int .i64 a0_0, .int .i64 a0_1, .string a0_2] 33 (0, 0)) (by (with_reducible repeat (first | refine blk_drewN ?_ _ | refine blk_drew ?_ | refine blk_alloc ?_ _)); exact BK398.out) hb)
  have n2_ := Aside0.mk (blk_below (g := gb399) (o := .cells #[.int .i64 a1_0, .int .i64 a1_1, .string a1_2] 33 (0, 0)) (by (with_reducible repeat (first | refine blk_drewN ?_ _ | refine blk_drew ?_ | refine blk_alloc ?_ _)); exact BK399.out) hb)
  have n3_ := Aside0.mk (below_step (by repeat (first | (with_reducible first | exact HB.out | apply below_alloc | apply pw_below_drewN | apply below_drew1 | refine below_set ?_ GE398.out | refine below_set ?_ GE399.out) | exact HB.out)) hb)
  clear BK398
  clear BK399
  clear HB
  have HO405 := n0_
  have BK398 := n1_
  have BK399 := n2_
  have HB := n3_
  clear n0_ n1_ n2_ n3_
  clear hb ho11
  obtain ⟨Ao12, co12, eo12⟩ := Kd.R_slice HO405.out
  (first | subst eo12 | (injection eo12 with f1_ f2_ f3_; have f4_ := f1_.symm; have f5_ := f3_.symm; clear f1_ f2_ f3_; subst f4_; subst f5_))
  refine hK.out _ _ ⟨(blk_cell BK398.out 0).trans rfl, (blk_cell BK398.out 1).trans rfl, (blk_cell BK398.out 2).trans rfl, (blk_cell BK399.out 0).trans rfl, (blk_cell BK399.out 1).trans rfl, (blk_cell BK399.out 2).trans rfl⟩ (fun hHeld => ?_)
  clear hK K
  refine norm_ (a' := ?_) ?_ ?_
  rotate_left
  · show Act.put _ (some 20) _ = _
    simp only [Act.put, List.setIfInBounds_toArray, List.set_cons_zero, List.set_cons_succ, i64_w, i32_w]
    rfl
  refine one_ (i := 16) (N := some 21) #[true, true, true, true, true, true, true, true, true, true, true, true, true, true, true, true, true, false] rfl rfl (one_of HT_.out (by kernel_rfl)) (by decide) (fun K hK => ?_)
  refine goes_ Try.func86 (by kernel_rfl) rfl #[.slice Ao12 y403.length co12] (by rfl) rfl rfl (by (try simp only [List.map_toArray, List.map_cons, List.map_nil]); first | done | rfl | (simp only [List.length_drop, List.length_take]; rfl)) ?_
  with_reducible refine (cmp_Or_int.calls k _ _ y403 t406 _ ?side1 ?side2 A6.out).mono ?_
  (case side1 => repeat (first | exact (Kd.R_reads' HO405.out).2.2 | (with_reducible refine Kd.C_alloc ?_ _) | (with_reducible refine Kd.C_drewN ?_ _) | (with_reducible refine Kd.C_drew ?_)))
  (case side2 => exact (Kd.R_reads' HO405.out).2.1)
  rintro e w' ⟨rfl, ⟨nd, rfl⟩⟩
  refine ⟨_, rfl, ?_⟩
  refine hK.out _ _ ⟨(blk_cell BK398.out 0).trans rfl, (blk_cell BK398.out 1).trans rfl, (blk_cell BK398.out 2).trans rfl, (blk_cell BK399.out 0).trans rfl, (blk_cell BK399.out 1).trans rfl, (blk_cell BK399.out 2).trans rfl⟩ (fun hHeld => ?_)
  clear hK K
  refine norm_ (a' := ?_) ?_ ?_
  rotate_left
  · show Act.put _ (some 21) _ = _
    simp only [Act.put, List.setIfInBounds_toArray, List.set_cons_zero, List.set_cons_succ, i64_w, i32_w]
    rfl
  refine pure_ (i := 17) (N := some 4) (v := ?_) (a' := ?_) #[true, true, true, true, true, true, true, true, true, true, true, true, true, true, true, true, true, true] rfl rfl (any_of HT_.out (by kernel_rfl)) (fun _ _ _ h => h) (Or.inl ⟨by rfl, ?_⟩) ?_ ?_
  rotate_left
  · intro w'
    go_simp
    with_reducible rfl
  rotate_left
  · simp only [Act.put, List.setIfInBounds_toArray, List.set_cons_zero, List.set_cons_succ, i64_w, i32_w]
    rfl
  refine done_ (done_of HT_.out (by kernel_rfl)) ?_
  try go_wp2
  go_ret
  exact ⟨by first | rfl | (simp [errW_none, errW_some] <;> rfl) | (simp [*, errW_none, errW_some] <;> rfl), by repeat (first | (with_reducible first | exact HB.out | apply below_alloc | apply pw_below_drewN | apply below_drew1 | refine below_set ?_ GE398.out | refine below_set ?_ GE399.out) | exact HB.out)⟩
end Go.Proofs.Ythghflgmeepnlaa.Pa
end
section
namespace Go.Proofs.Ythghflgmeepnlaa.Pa
open Go.RowKit Go.Proofs.YthghflgmeepnlaaW.PrintWords Go.Proofs.YthghflgmeepnlaaW.PrintLast Go.Proofs.YthghflgmeepnlaaW.PrintMore
set_option linter.unusedVariables false
set_option linter.unusedSimpArgs false
def cmpI (x y : Int) : Int := if x < y then -1 else if y < x then 1 else 0
/-- How two values stand. -/
def ordV (a0 a1 : Int) (a2 : ByteArray) (b0 b1 : Int) (b2 : ByteArray) : Int :=
  if cmpI a0 b0 ≠ 0 then cmpI a0 b0 else if cmpI a1 b1 ≠ 0 then cmpI a1 b1 else cmpS a2 b2
theorem compare_int (x y : Int) : cmp_Compare_int.f x y = some (cmpI x y) := by
  unfold cmp_Compare_int.f cmp_isNaN_int.f cmpI
  by_cases h1 : x < y
  · simp [h1]
  · by_cases h2 : y < x
    · simp [h1, h2]
    · simp [h1, h2]
theorem or_three (k : Nat) (x y z : Int) : cmp_Or_int.f (k + 4) [x, y, z] = some (if x ≠ 0 then x else if y ≠ 0 then y else z) := by
  unfold cmp_Or_int.f
  have w1 : wrap64 1 = 1 := by unfold wrap64; omega
  have w2 : wrap64 2 = 2 := by unfold wrap64; omega
  have w3 : wrap64 3 = 3 := by unfold wrap64; omega
  by_cases hx : x = 0
  · by_cases hy : y = 0
    · by_cases hz : z = 0 <;> simp [cmp_Or_int.l0, rd, w1, w2, w3, hx, hy, hz]
    · simp [cmp_Or_int.l0, rd, w1, w2, w3, hx, hy]
  · simp [cmp_Or_int.l0, rd, hx]
theorem order_is (k : Nat) (a0 a1 : Int) (a2 : ByteArray) (b0 b1 : Int) (b2 : ByteArray) : value_Order.f (k + 4) a0 a1 a2 b0 b1 b2 = some (ordV a0 a1 a2 b0 b1 b2) := by
  unfold value_Order.f
  simp only [compare_int, cmp_Compare_string.f, Option.bind_some, or_three, ordV]
end Go.Proofs.Ythghflgmeepnlaa.Pa
end
section
namespace Go.Proofs.Ythghflgmeepnlaa.Pa
open Go.RowKit Go.Proofs.YthghflgmeepnlaaW.PrintWords
set_option linter.unusedVariables false
set_option linter.unusedSimpArgs false
/-- A comparison that is a total order up to E. -/
structure Lin {α : Type} (c : α → α → Int) (E : α → α → Prop) : Prop where
  sg : ∀ x y, c x y = -1 ∨ c x y = 0 ∨ c x y = 1
  anti : ∀ x y, c x y = - c y x
  zero : ∀ x y, c x y = 0 ↔ E x y
  trans : ∀ x y z, c x y ≤ 0 → c y z ≤ 0 → c x z ≤ 0
namespace Lin
variable {α : Type} {c : α → α → Int} {E : α → α → Prop}
theorem strict (h : Lin c E) {x y z : α} (h1 : c x y < 0) (h2 : c y z ≤ 0) : c x z < 0 := by
  have h3 := h.trans x y z (by omega) h2
  rcases Int.lt_or_eq_of_le h3 with h4 | h4
  · exact h4
  · have h5 := h.anti x z
    have h6 := h.trans y z x h2 (by omega)
    have := h.anti x y
    omega
theorem strict' (h : Lin c E) {x y z : α} (h1 : c x y ≤ 0) (h2 : c y z < 0) : c x z < 0 := by
  have h3 := h.trans x y z h1 (by omega)
  rcases Int.lt_or_eq_of_le h3 with h4 | h4
  · exact h4
  · have h5 := h.anti x z
    have h6 := h.trans z x y (by omega) h1
    have := h.anti y z
    omega
/-- One comparison behind another one. -/
theorem lex {β : Type} {d : α → α → Int} {F : α → α → Prop} (h : Lin c E) (k : Lin d F) : Lin (fun x y => if c x y ≠ 0 then c x y else d x y) (fun x y => E x y ∧ F x y) where
  sg x y := by
    by_cases e : c x y ≠ 0
    · rw [if_pos e]; exact h.sg x y
    · rw [if_neg e]; exact k.sg x y
  anti x y := by
    have h1 := h.anti x y
    have h2 := k.anti x y
    by_cases e : c x y = 0
    · rw [if_neg (by simp [e]), if_neg (by simp; omega)]; exact h2
    · rw [if_pos e, if_pos (by omega)]; exact h1
  zero x y := by
    rw [← h.zero, ← k.zero]
    by_cases e : c x y = 0
    · simp [e]
    · simp [e]
  trans x y z := by
    intro h1 h2
    by_cases e1 : c x y = 0
    · rw [if_neg (by simp [e1])] at h1
      by_cases e2 : c y z = 0
      · rw [if_neg (by simp [e2])] at h2
        have a := h.trans x y z (by omega) (by omega)
        have b := h.trans z y x (by have := h.anti z y; omega) (by have := h.anti y x; omega)
        have := h.anti x z
        rw [if_neg (by simp; omega)]
        exact k.trans x y z h1 h2
      · rw [if_pos e2] at h2
        have a := h.strict' (x := x) (y := y) (z := z) (by omega) (by omega)
        rw [if_pos (by omega)]
        omega
    · rw [if_pos e1] at h1
      have h2' : c y z ≤ 0 := by
        by_cases e2 : c y z = 0
        · omega
        · rw [if_pos e2] at h2; exact h2
      have a := h.strict (x := x) (y := y) (z := z) (by omega) h2'
      rw [if_pos (by omega)]
      omega
theorem on {β : Type} (h : Lin c E) (f : β → α) : Lin (fun x y => c (f x) (f y)) (fun x y => E (f x) (f y)) where
  sg _ _ := h.sg _ _
  anti _ _ := h.anti _ _
  zero _ _ := h.zero _ _
  trans _ _ _ := h.trans _ _ _
end Lin
theorem lin_int : Lin cmpI (fun x y => x = y) where
  sg x y := by
    unfold cmpI
    split
    · simp
    · split <;> simp
  anti x y := by
    unfold cmpI
    by_cases h1 : x < y
    · rw [if_pos h1, if_neg (by omega), if_pos h1]
    · rw [if_neg h1]
      by_cases h2 : y < x
      · rw [if_pos h2, if_pos h2]; rfl
      · rw [if_neg h2, if_neg h2, if_neg h1]; rfl
  zero x y := by
    unfold cmpI
    split
    · simp; omega
    · split
      · simp; omega
      · simp; omega
  trans x y z := by
    unfold cmpI
    intro h1 h2
    by_cases a : x < z
    · simp [a]
    · rw [if_neg a]
      by_cases b : z < x
      · exfalso
        have e1 : ¬ y < x := by intro h; rw [if_neg (by omega), if_pos h] at h1; omega
        have e2 : ¬ z < y := by intro h; rw [if_neg (by omega), if_pos h] at h2; omega
        omega
      · simp [b]
theorem bl_cons (a b : UInt8) (x y : List UInt8) : Op.bytesLess (a :: x) (b :: y) = true ↔ a.toNat < b.toNat ∨ (a = b ∧ Op.bytesLess x y = true) := by
  simp [Op.bytesLess, UInt8.lt_iff_toNat_lt]
theorem bl_nil (x : List UInt8) : Op.bytesLess x [] = false := by cases x <;> rfl
theorem u8_eq {a b : UInt8} (h : a.toNat = b.toNat) : a = b := UInt8.toNat_inj.1 h
theorem bl_tri (x : List UInt8) : ∀ y, Op.bytesLess x y = true ∨ x = y ∨ Op.bytesLess y x = true := by
  induction x with
  | nil => intro y; cases y <;> simp [Op.bytesLess]
  | cons a x ih =>
    intro y
    cases y with
    | nil => simp [Op.bytesLess]
    | cons b y =>
      rw [bl_cons, bl_cons]
      rcases Nat.lt_trichotomy a.toNat b.toNat with h | h | h
      · exact .inl (.inl h)
      · have e := u8_eq h
        subst e
        rcases ih y with h1 | h1 | h1
        · exact .inl (.inr ⟨rfl, h1⟩)
        · exact .inr (.inl (by rw [h1]))
        · exact .inr (.inr (.inr ⟨rfl, h1⟩))
      · exact .inr (.inr (.inl h))
theorem bl_trans (x : List UInt8) : ∀ y z, Op.bytesLess x y = true → Op.bytesLess y z = true → Op.bytesLess x z = true := by
  induction x with
  | nil =>
    intro y z h1 h2
    cases z with
    | nil => rw [bl_nil] at h2; cases h2
    | cons c z => rfl
  | cons a x ih =>
    intro y z h1 h2
    cases y with
    | nil => rw [bl_nil] at h1; cases h1
    | cons b y =>
      cases z with
      | nil => rw [bl_nil] at h2; cases h2
      | cons c z =>
        rw [bl_cons] at h1 h2 ⊢
        rcases h1 with h1 | ⟨rfl, h1⟩
        · rcases h2 with h2 | ⟨rfl, h2⟩
          · exact .inl (by omega)
          · exact .inl h1
        · rcases h2 with h2 | ⟨rfl, h2⟩
          · exact .inl h2
          · exact .inr ⟨rfl, ih _ _ h1 h2⟩
theorem bl_asymm {x y : List UInt8} (h : Op.bytesLess x y = true) : Op.bytesLess y x = false := by
  cases e : Op.bytesLess y x with
  | false => rfl
  | true => have := bl_trans _ _ _ h e; rw [less_irrefl] at this; cases this
/-- How two byte strings stand. -/
def cmpB (a b : List UInt8) : Int := if Op.bytesLess a b = true then -1 else if a = b then 0 else 1
theorem lin_bytes : Lin cmpB (fun x y => x = y) where
  sg x y := by
    unfold cmpB
    split
    · simp
    · split <;> simp
  anti x y := by
    unfold cmpB
    rcases bl_tri x y with h | rfl | h
    · rw [if_pos h, if_neg (by simp [bl_asymm h]), if_neg (by rintro rfl; rw [less_irrefl] at h; cases h)]
    · simp [less_irrefl]
    · rw [if_neg (by simp [bl_asymm h]), if_neg (by rintro rfl; rw [less_irrefl] at h; cases h), if_pos h]; rfl
  zero x y := by
    unfold cmpB
    by_cases h : Op.bytesLess x y = true
    · rw [if_pos h]
      constructor
      · intro e; cases e
      · rintro rfl; rw [less_irrefl] at h; cases h
    · rw [if_neg h]
      split <;> simp_all
  trans x y z := by
    intro h1 h2
    have e : ∀ {a b : List UInt8}, cmpB a b ≤ 0 ↔ Op.bytesLess a b = true ∨ a = b := by
      intro a b
      unfold cmpB
      by_cases h : Op.bytesLess a b = true
      · simp [h]
      · rw [if_neg h]
        simp only [h, false_or]
        split <;> simp_all
    rw [e] at h1 h2 ⊢
    rcases h1 with h1 | rfl
    · rcases h2 with h2 | rfl
      · exact .inl (bl_trans _ _ _ h1 h2)
      · exact .inl h1
    · exact h2
theorem cmpS_is (a b : ByteArray) : cmpS a b = cmpB a.toList b.toList := rfl
/-- Two values are the same. -/
def sameV (x y : S33) : Prop := x.f0 = y.f0 ∧ x.f1 = y.f1 ∧ x.f2.toList = y.f2.toList
def ordS (x y : S33) : Int := ordV x.f0 x.f1 x.f2 y.f0 y.f1 y.f2
theorem lin_val : Lin ordS sameV := by
  have h := ((lin_int.on (fun x : S33 => x.f0)).lex (β := S33) ((lin_int.on (fun x : S33 => x.f1)).lex (β := S33) (lin_bytes.on (fun x : S33 => x.f2.toList))))
  exact h
end Go.Proofs.Ythghflgmeepnlaa.Pa
end
section
namespace Go.Proofs.Ythghflgmeepnlaa.Pa
open Go.RowKit Go.Proofs.YthghflgmeepnlaaW.PrintWords Go.Proofs.YthghflgmeepnlaaW.PrintLast Go.Proofs.YthghflgmeepnlaaW.PrintMore
set_option linter.unusedVariables false
set_option linter.unusedSimpArgs false
def ordL : List S33 → List S33 → Int
  | [], [] => 0
  | [], _ :: _ => -1
  | _ :: _, [] => 1
  | x :: xs, y :: ys => if ordS x y = 0 then ordL xs ys else ordS x y
theorem drop_rd (l : List S33) (i : Nat) (h : i < l.length) : l.drop i = rd_T33 l i :: l.drop (i + 1) := by
  rw [List.drop_eq_getElem_cons h]
  simp [rd_T33, List.getD, h]
theorem ordL_step (l0 l1 : List S33) (i : Nat) (h0 : i < l0.length) (h1 : i < l1.length) :
    ordL (l0.drop i) (l1.drop i) = if ordS (rd_T33 l0 i) (rd_T33 l1 i) = 0 then ordL (l0.drop (i + 1)) (l1.drop (i + 1)) else ordS (rd_T33 l0 i) (rd_T33 l1 i) := by
  rw [drop_rd l0 i h0, drop_rd l1 i h1]; rfl
theorem ordL_more (l0 l1 : List S33) (i : Nat) (h0 : i < l0.length) (h1 : ¬ i < l1.length) : ordL (l0.drop i) (l1.drop i) = 1 := by
  rw [drop_rd l0 i h0, show l1.drop i = [] from List.drop_eq_nil_of_le (by omega)]; rfl
theorem ordL_less (l0 l1 : List S33) (i : Nat) (h0 : ¬ i < l0.length) (h1 : i < l1.length) : ordL (l0.drop i) (l1.drop i) = -1 := by
  rw [drop_rd l1 i h1, show l0.drop i = [] from List.drop_eq_nil_of_le (by omega)]; rfl
theorem ordL_end (l0 l1 : List S33) (i : Nat) (h0 : ¬ i < l0.length) (h1 : ¬ i < l1.length) : ordL (l0.drop i) (l1.drop i) = 0 := by
  rw [List.drop_eq_nil_of_le (by omega), List.drop_eq_nil_of_le (by omega)]; rfl
end Go.Proofs.Ythghflgmeepnlaa.Pa
end
section
namespace Go.Proofs.Ythghflgmeepnlaa.Pa
open Go.RowKit Go.Proofs.YthghflgmeepnlaaW.PrintWords Go.Proofs.YthghflgmeepnlaaW.PrintLast Go.Proofs.YthghflgmeepnlaaW.PrintMore
set_option linter.unusedVariables false
set_option linter.unusedSimpArgs false
theorem cmpB_cons (a b : UInt8) (x y : List UInt8) : cmpB (a :: x) (b :: y) = if a = b then cmpB x y else if a.toNat < b.toNat then -1 else 1 := by
  have h := bl_cons a b x y
  unfold cmpB
  by_cases e : a = b
  · subst e
    rw [if_pos rfl]
    by_cases h1 : Op.bytesLess x y = true
    · rw [if_pos (h.2 (.inr ⟨rfl, h1⟩)), if_pos h1]
    · rw [if_neg (fun q => by rcases h.1 q with q | q; omega; exact h1 q.2), if_neg h1]
      by_cases h2 : x = y <;> simp [h2]
  · rw [if_neg e]
    by_cases h1 : a.toNat < b.toNat
    · rw [if_pos (h.2 (.inl h1)), if_pos h1]
    · rw [if_neg (fun q => by rcases h.1 q with q | q; omega; exact e q.1), if_neg (by simp [e]), if_neg h1]
theorem cmpB_self (x : List UInt8) : cmpB x x = 0 := by unfold cmpB; rw [less_irrefl]; simp
theorem cmpB_nil_cons (b : UInt8) (y : List UInt8) : cmpB [] (b :: y) = -1 := by unfold cmpB; rw [if_pos (by rfl)]
theorem cmpB_cons_nil (b : UInt8) (y : List UInt8) : cmpB (b :: y) [] = 1 := by unfold cmpB; rw [bl_nil]; simp
theorem down_cmp (W V : Nat) (s t : List UInt8) : ∀ i, cmpB (downN W i ++ s) (downN V i ++ t) = if W % 2 ^ (8 * i) = V % 2 ^ (8 * i) then cmpB s t else if W % 2 ^ (8 * i) < V % 2 ^ (8 * i) then -1 else 1
  | 0 => by simp [downN, Nat.mod_one]
  | i + 1 => by
    have ih := down_cmp W V s t i
    show cmpB (UInt8.ofNat (W / 2 ^ (8 * i)) :: (downN W i ++ s)) (UInt8.ofNat (V / 2 ^ (8 * i)) :: (downN V i ++ t)) = _
    rw [cmpB_cons, ih]
    have e : ∀ U : Nat, (UInt8.ofNat (U / 2 ^ (8 * i))).toNat = U / 2 ^ (8 * i) % 256 := fun U => by simp
    have d : ∀ U : Nat, U % 2 ^ (8 * (i + 1)) = U % 2 ^ (8 * i) + 2 ^ (8 * i) * (U / 2 ^ (8 * i) % 256) := fun U => by
      rw [show 8 * (i + 1) = 8 * i + 8 from by omega, Nat.pow_add, Nat.mod_mul]
    have q : (UInt8.ofNat (W / 2 ^ (8 * i)) = UInt8.ofNat (V / 2 ^ (8 * i))) ↔ W / 2 ^ (8 * i) % 256 = V / 2 ^ (8 * i) % 256 := by
      rw [← UInt8.toNat_inj, e, e]
    rw [e, e, d, d]
    have hP : 0 < 2 ^ (8 * i) := Nat.two_pow_pos _
    have hx : W % 2 ^ (8 * i) < 2 ^ (8 * i) := Nat.mod_lt _ hP
    have hy : V % 2 ^ (8 * i) < 2 ^ (8 * i) := Nat.mod_lt _ hP
    simp only [q]
    generalize W / 2 ^ (8 * i) % 256 = a at *
    generalize V / 2 ^ (8 * i) % 256 = b at *
    generalize W % 2 ^ (8 * i) = x at *
    generalize V % 2 ^ (8 * i) = y at *
    generalize 2 ^ (8 * i) = P at *
    by_cases h1 : a = b
    · subst h1
      by_cases h2 : x = y
      · simp [h2]
      · rw [if_pos rfl, if_neg h2, if_neg (show ¬ (x + P * a = y + P * a) by omega)]
        by_cases h3 : x < y
        · rw [if_pos h3, if_pos (show x + P * a < y + P * a by omega)]
        · rw [if_neg h3, if_neg (show ¬ (x + P * a < y + P * a) by omega)]
    · rw [if_neg h1]
      by_cases h2 : a < b
      · have := Nat.mul_le_mul_left P (show a + 1 ≤ b from h2)
        rw [Nat.mul_add] at this
        rw [if_pos h2, if_neg (by omega), if_pos (by omega)]
      · have := Nat.mul_le_mul_left P (show b + 1 ≤ a from by omega)
        rw [Nat.mul_add] at this
        rw [if_neg h2, if_neg (by omega), if_neg (by omega)]
theorem encN_cmp (n m : Int) (hn : -9223372036854775808 ≤ n ∧ n ≤ 9223372036854775807) (hm : -9223372036854775808 ≤ m ∧ m ≤ 9223372036854775807) (s t : List UInt8) :
    cmpB (encN n ++ s) (encN m ++ t) = if cmpI n m = 0 then cmpB s t else cmpI n m := by
  unfold encN
  rw [down_cmp]
  have h1 := wordN_lt n
  have h2 := wordN_lt m
  rw [show (2 : Nat) ^ (8 * 8) = 18446744073709551616 from rfl, Nat.mod_eq_of_lt h1, Nat.mod_eq_of_lt h2]
  have e1 : (wordN n : Int) = n + 9223372036854775808 := by unfold wordN; omega
  have e2 : (wordN m : Int) = m + 9223372036854775808 := by unfold wordN; omega
  generalize wordN n = a at *
  generalize wordN m = b at *
  unfold cmpI
  by_cases h3 : n < m
  · rw [if_neg (by omega), if_pos (by omega), if_pos h3]; simp
  · by_cases h4 : m < n
    · rw [if_neg (by omega), if_neg (by omega), if_neg h3, if_pos h4]; simp
    · rw [if_pos (by omega), if_neg h3, if_neg h4]; simp
theorem u8_pos {c : UInt8} (h : ¬ c = 0) : 0 < c.toNat := by
  rcases Nat.eq_zero_or_pos c.toNat with e | e
  · exact absurd (UInt8.toNat_inj.1 (by rw [e]; rfl)) h
  · exact e
theorem encT_cmp (s t : List UInt8) : ∀ a b : List UInt8, cmpB (encT a ++ 0 :: 0 :: s) (encT b ++ 0 :: 0 :: t) = if a = b then cmpB s t else cmpB a b
  | [], [] => by simp [encT, cmpB_cons]
  | [], c :: b => by
    rw [if_neg (by simp), cmpB_nil_cons]
    unfold encT
    by_cases hc : c = 0
    · rw [if_pos hc]; show cmpB (0 :: 0 :: s) (0 :: 255 :: (encT b ++ 0 :: 0 :: t)) = -1
      rw [cmpB_cons, if_pos rfl, cmpB_cons, if_neg (by decide), if_pos (by decide)]
    · rw [if_neg hc]; show cmpB (0 :: 0 :: s) (c :: (encT b ++ 0 :: 0 :: t)) = -1
      rw [cmpB_cons, if_neg (Ne.symm hc), if_pos (show (0 : UInt8).toNat < c.toNat from u8_pos hc)]
  | c :: a, [] => by
    rw [if_neg (by simp), cmpB_cons_nil]
    unfold encT
    by_cases hc : c = 0
    · rw [if_pos hc]; show cmpB (0 :: 255 :: (encT a ++ 0 :: 0 :: s)) (0 :: 0 :: t) = 1
      rw [cmpB_cons, if_pos rfl, cmpB_cons, if_neg (by decide), if_neg (by decide)]
    · rw [if_neg hc]; show cmpB (c :: (encT a ++ 0 :: 0 :: s)) (0 :: 0 :: t) = 1
      rw [cmpB_cons, if_neg hc, if_neg (by have := u8_pos hc; show ¬ c.toNat < 0; omega)]
  | c :: a, d :: b => by
    have ih := encT_cmp s t a b
    rw [cmpB_cons c d]
    by_cases hc : c = 0
    · by_cases hd : d = 0
      · subst hc; subst hd
        show cmpB (0 :: 255 :: (encT a ++ 0 :: 0 :: s)) (0 :: 255 :: (encT b ++ 0 :: 0 :: t)) = _
        rw [cmpB_cons, if_pos rfl, cmpB_cons, if_pos rfl, ih]
        by_cases e : a = b <;> simp [e]
      · rw [show encT (d :: b) = d :: encT b from if_neg hd]
        subst hc
        show cmpB (0 :: 255 :: (encT a ++ 0 :: 0 :: s)) (d :: (encT b ++ 0 :: 0 :: t)) = _
        have n1 : ¬ (0 : UInt8) = d := Ne.symm hd
        have n2 : ¬ (0 :: a = d :: b) := fun q => n1 (List.cons.inj q).1
        simp only [cmpB_cons, n1, n2, if_false]
    · rw [show encT (c :: a) = c :: encT a from if_neg hc]
      by_cases hd : d = 0
      · subst hd
        show cmpB (c :: (encT a ++ 0 :: 0 :: s)) (0 :: 255 :: (encT b ++ 0 :: 0 :: t)) = _
        have n2 : ¬ (c :: a = 0 :: b) := fun q => hc (List.cons.inj q).1
        simp only [cmpB_cons, hc, n2, if_false]
      · rw [show encT (d :: b) = d :: encT b from if_neg hd]
        show cmpB (c :: (encT a ++ 0 :: 0 :: s)) (d :: (encT b ++ 0 :: 0 :: t)) = _
        rw [cmpB_cons, ih]
        by_cases e : c = d
        · subst e
          by_cases e2 : a = b <;> simp [e2]
        · have n2 : ¬ (c :: a = d :: b) := fun q => e (List.cons.inj q).1
          simp only [e, n2, if_false]
theorem right_cases {x : S33} (h : rightV x = 0) : (x.f0 = 0 ∧ x.f1 = 0 ∧ txt x.f2 = []) ∨ (x.f0 = 1 ∧ (x.f1 = 0 ∨ x.f1 = 1) ∧ txt x.f2 = []) ∨ (x.f0 = 2 ∧ txt x.f2 = []) ∨ (x.f0 = 3 ∧ x.f1 = 0) := by
  unfold rightV at h
  by_cases h0 : x.f0 = 0
  · rw [if_pos h0] at h
    by_cases h1 : x.f1 = 0 ∧ txt x.f2 = []
    · exact .inl ⟨h0, h1⟩
    · rw [if_neg h1] at h; omega
  rw [if_neg h0] at h
  by_cases h1 : x.f0 = 1
  · rw [if_pos h1] at h
    by_cases h2 : (x.f1 = 0 ∨ x.f1 = 1) ∧ txt x.f2 = []
    · exact .inr (.inl ⟨h1, h2⟩)
    · rw [if_neg h2] at h; omega
  rw [if_neg h1] at h
  by_cases h2 : x.f0 = 2
  · rw [if_pos h2] at h
    by_cases h3 : txt x.f2 = []
    · exact .inr (.inr (.inl ⟨h2, h3⟩))
    · rw [if_neg h3] at h; omega
  rw [if_neg h2] at h
  by_cases h3 : x.f0 = 3
  · rw [if_pos h3] at h
    by_cases h4 : x.f1 = 0
    · exact .inr (.inr (.inr ⟨h3, h4⟩))
    · rw [if_neg h4] at h; omega
  · rw [if_neg h3] at h; omega
theorem ordS_txt (x y : S33) : ordS x y = if cmpI x.f0 y.f0 ≠ 0 then cmpI x.f0 y.f0 else if cmpI x.f1 y.f1 ≠ 0 then cmpI x.f1 y.f1 else cmpB (txt x.f2) (txt y.f2) := by
  unfold ordS ordV
  rw [cmpS_is, toList_txt, toList_txt]
theorem cmpI_self (n : Int) : cmpI n n = 0 := by unfold cmpI; simp
theorem enc_cmp (x y : S33) (hx : rightV x = 0) (hy : rightV y = 0) (ox : -9223372036854775808 ≤ x.f1 ∧ x.f1 ≤ 9223372036854775807) (oy : -9223372036854775808 ≤ y.f1 ∧ y.f1 ≤ 9223372036854775807) (s t : List UInt8) :
    cmpB (encB x ++ s) (encB y ++ t) = if ordS x y = 0 then cmpB s t else ordS x y := by
  rw [ordS_txt]
  unfold encB
  rcases right_cases hx with ⟨a0, a1, a2⟩ | ⟨a0, a1, a2⟩ | ⟨a0, a2⟩ | ⟨a0, a1⟩ <;> rcases right_cases hy with ⟨b0, b1, b2⟩ | ⟨b0, b1, b2⟩ | ⟨b0, b2⟩ | ⟨b0, b1⟩
  · simp [a0, a1, a2, b0, b1, b2, cmpI, cmpB_cons, cmpB_self]
  · rcases b1 with b1 | b1 <;> simp [a0, a1, a2, b0, b1, b2, cmpI, cmpB_cons, cmpB_self]
  · simp [a0, a1, a2, b0, b2, cmpI, cmpB_cons, cmpB_self]
  · simp [a0, a1, a2, b0, b1, cmpI, cmpB_cons, cmpB_self]
  · rcases a1 with a1 | a1 <;> simp [a0, a1, a2, b0, b1, b2, cmpI, cmpB_cons, cmpB_self]
  · rcases a1 with a1 | a1 <;> rcases b1 with b1 | b1 <;> simp [a0, a1, a2, b0, b1, b2, cmpI, cmpB_cons, cmpB_self]
  · rcases a1 with a1 | a1 <;> simp [a0, a1, a2, b0, b2, cmpI, cmpB_cons, cmpB_self]
  · rcases a1 with a1 | a1 <;> simp [a0, a1, a2, b0, b1, cmpI, cmpB_cons, cmpB_self]
  · simp [a0, a2, b0, b1, b2, cmpI, cmpB_cons, cmpB_self]
  · rcases b1 with b1 | b1 <;> simp [a0, a2, b0, b1, b2, cmpI, cmpB_cons, cmpB_self]
  · rw [a0, b0, a2, b2, cmpI_self, cmpB_self]
    have e := encN_cmp x.f1 y.f1 ox oy s t
    show cmpB (4 :: (encN x.f1 ++ s)) (4 :: (encN y.f1 ++ t)) = _
    rw [cmpB_cons, if_pos rfl, e]
    by_cases h : cmpI x.f1 y.f1 = 0 <;> simp [h]
  · simp [a0, a2, b0, b1, cmpI, cmpB_cons, cmpB_self]
  · simp [a0, a1, b0, b1, b2, cmpI, cmpB_cons, cmpB_self]
  · rcases b1 with b1 | b1 <;> simp [a0, a1, b0, b1, b2, cmpI, cmpB_cons, cmpB_self]
  · simp [a0, a1, b0, b2, cmpI, cmpB_cons, cmpB_self]
  · rw [a0, b0, a1, b1]
    have e := encT_cmp s t (txt x.f2) (txt y.f2)
    show cmpB (5 :: ((encT (txt x.f2) ++ [0, 0]) ++ s)) (5 :: ((encT (txt y.f2) ++ [0, 0]) ++ t)) = _
    rw [cmpB_cons, if_pos rfl, List.append_assoc, List.append_assoc]
    show cmpB (encT (txt x.f2) ++ 0 :: 0 :: s) (encT (txt y.f2) ++ 0 :: 0 :: t) = _
    rw [e]
    simp only [cmpI_self, ne_eq, not_true_eq_false, if_false]
    by_cases h : txt x.f2 = txt y.f2
    · rw [if_pos h, h, cmpB_self]; simp
    · have := lin_bytes.zero (txt x.f2) (txt y.f2)
      rw [if_neg h, if_neg (fun q => h (this.1 q))]
theorem encB_cons (x : S33) : ∃ b l, encB x = b :: l := by
  unfold encB
  split
  · exact ⟨_, _, rfl⟩
  · split
    · exact ⟨_, _, rfl⟩
    · split
      · exact ⟨_, _, rfl⟩
      · exact ⟨_, _, rfl⟩
theorem bytes_cmp : ∀ (l0 l1 : List S33), (∀ x ∈ l0, rightV x = 0 ∧ -9223372036854775808 ≤ x.f1 ∧ x.f1 ≤ 9223372036854775807) → (∀ x ∈ l1, rightV x = 0 ∧ -9223372036854775808 ≤ x.f1 ∧ x.f1 ≤ 9223372036854775807) →
    cmpB (bytesR l0) (bytesR l1) = ordL l0 l1
  | [], [], _, _ => by simp [bytesR, ordL, cmpB_self]
  | [], y :: l1, _, _ => by
    obtain ⟨b, l, e⟩ := encB_cons y
    show cmpB [] (encB y ++ bytesR l1) = -1
    rw [e]; exact cmpB_nil_cons _ _
  | x :: l0, [], _, _ => by
    obtain ⟨b, l, e⟩ := encB_cons x
    show cmpB (encB x ++ bytesR l0) [] = 1
    rw [e]; exact cmpB_cons_nil _ _
  | x :: l0, y :: l1, h0, h1 => by
    have ih := bytes_cmp l0 l1 (fun z hz => h0 z (by simp [hz])) (fun z hz => h1 z (by simp [hz]))
    show cmpB (encB x ++ bytesR l0) (encB y ++ bytesR l1) = if ordS x y = 0 then ordL l0 l1 else ordS x y
    rw [enc_cmp x y (h0 x (by simp)).1 (h1 y (by simp)).1 (h0 x (by simp)).2 (h1 y (by simp)).2, ih]
end Go.Proofs.Ythghflgmeepnlaa.Pa
end
section
namespace Go.Proofs.Ythghflgmeepnlaa.Pure
open Go.RowKit Go.Proofs.Ythghflgmeepnlaa.Pa Go.Proofs.YthghflgmeepnlaaW.PrintWords Go.Proofs.YthghflgmeepnlaaW.PrintLast
set_option linter.unusedVariables false
set_option linter.unusedSimpArgs false
theorem wrap_next (i : Nat) (h : i ≤ 100000) : wrap64 ((i : Int) + 1) = ((i + 1 : Nat) : Int) := by unfold wrap64; omega
theorem same_l0 (l0 l1 : List S33) (hl : l0.length ≤ 60) (he : l0.length = l1.length) (d : Nat) : ∀ (k i : Nat), i + d = l0.length →
    cordonref02_Same.l0 (k + d + 1) l0 l1 (i : Int) = some (decide (ordL (l0.drop i) (l1.drop i) = 0)) := by
  induction d with
  | zero =>
    intro k i hd
    rw [show k + 0 + 1 = k + 1 from rfl, cordonref02_Same.l0, if_neg (by omega), ordL_end l0 l1 i (by omega) (by omega)]
    rfl
  | succ d ih =>
    intro k i hd
    rw [show k + (d + 1) + 1 = (k + d + 1) + 1 from by omega, cordonref02_Same.l0, if_pos (by omega), if_pos (by omega), if_pos (by omega), ordL_step l0 l1 i (by omega) (by omega), wrap_next i (by omega), ih k (i + 1) (by omega)]
    have z := lin_val.zero (rd_T33 l0 i) (rd_T33 l1 i)
    unfold sameV at z
    by_cases h : ordS (rd_T33 l0 i) (rd_T33 l1 i) = 0
    · obtain ⟨h1, h2, h3⟩ := z.1 h
      rw [if_neg (by simp [h1, h2, h3]), if_pos h]
    · rw [if_pos, if_neg h]
      · simp [h]
      · have h9 : ¬ ((rd_T33 l0 i).f0 = (rd_T33 l1 i).f0 ∧ (rd_T33 l0 i).f1 = (rd_T33 l1 i).f1 ∧ (rd_T33 l0 i).f2.toList = (rd_T33 l1 i).f2.toList) := fun q => h (z.2 q)
        simp only [Bool.or_eq_true, Bool.not_eq_true', beq_eq_false_iff_ne, ne_eq]
        by_cases g1 : (rd_T33 l0 i).f0 = (rd_T33 l1 i).f0
        · by_cases g2 : (rd_T33 l0 i).f1 = (rd_T33 l1 i).f1
          · exact .inr (.inr fun g3 => h9 ⟨g1, g2, g3⟩)
          · exact .inr (.inl g2)
        · exact .inl g1
theorem ordL_len : ∀ a b : List S33, ordL a b = 0 → a.length = b.length
  | [], [], _ => rfl
  | [], _ :: _, h => by simp [ordL] at h
  | _ :: _, [], h => by simp [ordL] at h
  | x :: a, y :: b, h => by
    unfold ordL at h
    by_cases g : ordS x y = 0
    · rw [if_pos g] at h
      simp [ordL_len a b h]
    · rw [if_neg g] at h; exact absurd h g
theorem same_is (l0 l1 : List S33) (hl : l0.length ≤ 60) (k : Nat) : cordonref02_Same.f (k + 61) l0 l1 = some (decide (ordL l0 l1 = 0)) := by
  unfold cordonref02_Same.f
  by_cases h : l0.length = l1.length
  · have := same_l0 l0 l1 hl h l0.length (k + (60 - l0.length)) 0 (by omega)
    rw [show k + (60 - l0.length) + l0.length + 1 = k + 61 from by omega, Int.natCast_zero] at this
    rw [if_pos (by omega), this]; rfl
  · rw [if_neg (by omega), decide_eq_false (fun q => h (ordL_len _ _ q))]
end Go.Proofs.Ythghflgmeepnlaa.Pure
end
section
namespace Go.Proofs.Ythghflgmeepnlaa.Pa
open Go.RowKit Go.Proofs.YthghflgmeepnlaaW.PrintWords Go.Proofs.YthghflgmeepnlaaW.PrintLast Go.Proofs.YthghflgmeepnlaaW.PrintMore
attribute [local go_sem] max2_int max_two
set_option linter.unusedVariables false
set_option linter.unusedSimpArgs false
def cordonref11_In.l0 : Nat → List (List (S33)) → List (S33) → Int → Option (Bool)
  | 0, _, _, _ => none
  | k + 1, x0, x1, x5 => if x5 < (x0.length : Int) then (if 0 ≤ x5 then ((cordonref02_Same.f k (rd_L4 x0 x5) x1).bind fun t691 => (if t691 = true then (some true) else (cordonref11_In.l0 k x0 x1 (wrap64 (x5 + 1))))) else (none)) else (some false)
def cordonref11_In.f (k : Nat) (l0 : List (List (S33))) (l1 : List (S33)) : Option (Bool) := cordonref11_In.l0 k l0 l1 0
set_option maxHeartbeats 8000000 in
set_option maxRecDepth 100000 in
theorem cordonref11_In.calls (k : Nat) (A0 : Option Addr) (c0 : Nat) (l0 : List (List (S33))) (A1 : Option Addr) (c1 : Nat) (l1 : List (S33)) (r : Bool) (w : World) (hr0 : Kd.C (Kd.slice 33 k33) w A0 l0.length l0) (hc0 : l0.length ≤ c0) (hr1 : Kd.C k33 w A1 l1.length l1) (hc1 : l1.length ≤ c1) (h : cordonref11_In.f k l0 l1 = some r) :
    Calls Try.prog 71 #[.slice A0 l0.length c0, .slice A1 l1.length c1] w fun e w' => e = .returned (.bool r) ∧ Drawn0 w w' := by
  have HR0 := Aside0.mk hr0
  have HC0 := Aside0.mk hc0
  clear hr0 hc0
  have HR1 := Aside0.mk hr1
  have HC1 := Aside0.mk hc1
  clear hr1 hc1
  have H : (cordonref11_In.l0 k l0 l1 0) = some r := h
  clear h
  have H' := Aside0.mk H
  clear H
  go_enter Try.func71, Try.ntmps71
  go_wp2
  go_loopg [5] k (fun kq v5 w' => ∃ (x5_1 : Int), v5 = .int .i64 x5_1 ∧ Aside0 (cordonref11_In.l0 kq l0 l1 x5_1 = some r) ∧ Aside0 (kq ≤ k) ∧ Drawn0 w w')
  case atStart => exact ⟨(0), (by first | rfl | (simp; done) | (simp [*]; done)), H', ⟨Nat.le_refl _⟩, by repeat (first | exact Drawn0.refl _ | apply Drawn0.step)⟩
  case round =>
    clear H'
    try clear c1
    try clear p2
    obtain ⟨x5_1, rfl, HA, HK1, ⟨m1, rfl⟩⟩ := hrel
    cases gk with
    | zero => exact absurd HA.out (by simp [cordonref11_In.l0])
    | succ k1 =>
      have H := HA.out
      clear HA
      simp only [cordonref11_In.l0] at H
      by_cases c3 : x5_1 < (l0.length : Int)
      · rw [if_pos c3] at H
        have c3b0 : decide (x5_1 < (l0.length : Int)) = true := decide_eq_true c3
        clear c3
        by_cases c4 : 0 ≤ x5_1
        · rw [if_pos c4] at H
          have c4b0 : decide (0 ≤ x5_1) = true := decide_eq_true c4
          clear c4
          replace H := Option.bind_eq_some_iff.mp H
          obtain ⟨t691, A50, H⟩ := H
          replace H : (if t691 = true then (some true) else (cordonref11_In.l0 k1 l0 l1 (wrap64 (x5_1 + 1)))) = some r := H
          have A5 := Aside0.mk A50
          clear A50
          by_cases c6 : t691 = true
          · subst c6
            have H1 : (some true) = some r := by rw [if_pos rfl] at H; exact H
            clear H
            have H := H1
            clear H1
            obtain rfl := Option.some.inj H
            have p690 : 0 ≤ (x5_1 : Int) := of_decide_eq_true (by first | (with_reducible assumption) | assumption)
            have q690 : x5_1 < (l0.length : Int) := of_decide_eq_true (by first | (with_reducible assumption) | assumption)
            obtain ⟨ad690, A690_0, c690_0, e690, hx690_0, hl690_0, hi690_0⟩ := at_L4 HR0.out x5_1 p690 q690
            cases e690
            have HR690_0 := Aside0.mk hi690_0
            have HC690_0 := Aside0.mk hl690_0
            clear hi690_0 hl690_0
            replace p690 := eq_true p690
            replace q690 := eq_true q690
            go_wp2_with (first | ((with_reducible refine gate_callee (f := 49) rfl ?_); refine goesL_ (some 17) rfl rfl Try.func49 (by kernel_rfl) rfl #[.slice A690_0 (rd_L4 l0 x5_1).length c690_0, .slice A1 l1.length c1] rfl (by (try simp only [List.map_toArray, List.map_cons, List.map_nil]); first | done | rfl | (simp only [List.length_drop, List.length_take]; rfl)) ?_; (with_reducible refine (cordonref02_Same.calls k1 _ _ (rd_L4 l0 x5_1) _ _ l1 true _ ?side1 ?side2 ?side3 ?side4 A5.out).mono ?_); (case side1 => repeat (first | exact HR690_0.out | (with_reducible refine Kd.C_alloc ?_ _) | (with_reducible refine Kd.C_drewN ?_ _) | (with_reducible refine Kd.C_drew ?_))); (case side2 => exact HC690_0.out); (case side3 => repeat (first | exact HR1.out | (with_reducible refine Kd.C_alloc ?_ _) | (with_reducible refine Kd.C_drewN ?_ _) | (with_reducible refine Kd.C_drew ?_))); (case side4 => exact HC1.out); rintro e w' ⟨rfl, ⟨nd, rfl⟩⟩; refine ⟨_, rfl, ?_⟩))
            go_ret
            exact ⟨by first | rfl | (simp; done) | (simp [*]; done), by repeat (first | exact Drawn0.refl _ | apply Drawn0.step)⟩
          · replace c6 := Bool.eq_false_iff.mpr c6
            subst c6
            have H1 : (cordonref11_In.l0 k1 l0 l1 (wrap64 (x5_1 + 1))) = some r := by rw [if_neg (show ¬ (false = true) by decide)] at H; exact H
            clear H
            have H := H1
            clear H1
            have H' := Aside0.mk H
            clear H
            have p690 : 0 ≤ (x5_1 : Int) := of_decide_eq_true (by first | (with_reducible assumption) | assumption)
            have q690 : x5_1 < (l0.length : Int) := of_decide_eq_true (by first | (with_reducible assumption) | assumption)
            obtain ⟨ad690, A690_0, c690_0, e690, hx690_0, hl690_0, hi690_0⟩ := at_L4 HR0.out x5_1 p690 q690
            cases e690
            have HR690_0 := Aside0.mk hi690_0
            have HC690_0 := Aside0.mk hl690_0
            clear hi690_0 hl690_0
            replace p690 := eq_true p690
            replace q690 := eq_true q690
            go_wp2_with (first | ((with_reducible refine gate_callee (f := 49) rfl ?_); refine goesL_ (some 17) rfl rfl Try.func49 (by kernel_rfl) rfl #[.slice A690_0 (rd_L4 l0 x5_1).length c690_0, .slice A1 l1.length c1] rfl (by (try simp only [List.map_toArray, List.map_cons, List.map_nil]); first | done | rfl | (simp only [List.length_drop, List.length_take]; rfl)) ?_; (with_reducible refine (cordonref02_Same.calls k1 _ _ (rd_L4 l0 x5_1) _ _ l1 false _ ?side1 ?side2 ?side3 ?side4 A5.out).mono ?_); (case side1 => repeat (first | exact HR690_0.out | (with_reducible refine Kd.C_alloc ?_ _) | (with_reducible refine Kd.C_drewN ?_ _) | (with_reducible refine Kd.C_drew ?_))); (case side2 => exact HC690_0.out); (case side3 => repeat (first | exact HR1.out | (with_reducible refine Kd.C_alloc ?_ _) | (with_reducible refine Kd.C_drewN ?_ _) | (with_reducible refine Kd.C_drew ?_))); (case side4 => exact HC1.out); rintro e w' ⟨rfl, ⟨nd, rfl⟩⟩; refine ⟨_, rfl, ?_⟩))
            go_roundg k1
            case measure => have := HK1.out; omega
            case rel => exact ⟨(wrap64 (x5_1 + 1)), (by first | rfl | (simp; done) | (simp [*]; done)), H', ⟨by have := HK1.out; omega⟩, by repeat (first | exact Drawn0.refl _ | apply Drawn0.step)⟩
        · rw [if_neg c4] at H
          exact absurd H (by simp)
      · rw [if_neg c3] at H
        have c3b0 : decide (x5_1 < (l0.length : Int)) = false := decide_eq_false c3
        clear c3
        obtain rfl := Option.some.inj H
        go_wp2
        go_ret
        exact ⟨by first | rfl | (simp; done) | (simp [*]; done), by repeat (first | exact Drawn0.refl _ | apply Drawn0.step)⟩
def cordonref11_Distinct.l0 : Nat → List (List (S33)) → List (List (S33)) → Int → Option ((List (List (S33))))
  | 0, _, _, _ => none
  | k + 1, x0, x3, x4 => if x4 < (x0.length : Int) then (if 0 ≤ x4 then ((cordonref11_In.f k x3 (rd_L4 x0 x4)).bind fun t693 => (if t693 = true then (cordonref11_Distinct.l0 k x0 x3 (wrap64 (x4 + 1))) else (if x3.length < 5864062014805 then (cordonref11_Distinct.l0 k x0 (x3 ++ [rd_L4 x0 x4]) (wrap64 (x4 + 1))) else (none)))) else (none)) else (some x3)
def cordonref11_Distinct.f (k : Nat) (l0 : List (List (S33))) : Option ((List (List (S33)))) := cordonref11_Distinct.l0 k l0 ([] : List (List (S33))) 0
set_option maxHeartbeats 8000000 in
set_option maxRecDepth 100000 in
theorem cordonref11_Distinct.calls (k : Nat) (P0_ : Nat → Prop) (A0 : Option Addr) (c0 : Nat) (l0 : List (List (S33))) (r : List (List (S33))) (w : World) (hs0 : Kd.V (Kd.slice 33 k33) 22 w w.heap.size (fun k_ => P0_ k_) (.slice A0 l0.length c0) l0) (h : cordonref11_Distinct.f k l0 = some r) :
    Calls Try.prog 62 #[.slice A0 l0.length c0] w fun e w' => ∃ v0_ : Value, e = .returned (v0_) ∧ Kd.N (Kd.slice 33 k33) 22 w' w.heap.size (fun k_ => (P0_ k_ ∨ w.heap.size ≤ k_)) v0_ r ∧ Below w.heap.size w w' := by
  have HO0 := Aside0.mk (show Kd.V (Kd.slice 33 k33) 22 w w.heap.size (fun k_ => (P0_ k_ ∨ w.heap.size ≤ k_)) (.slice A0 l0.length c0) l0 from Kd.V_mono hs0 (fun k_ hk => .inl hk))
  have HB := Aside0.mk (Below.refl w.heap.size w)
  have H : (cordonref11_Distinct.l0 k l0 ([] : List (List (S33))) 0) = some r := h
  clear h
  have H' := Aside0.mk H
  clear H
  go_enter Try.func62, Try.ntmps62
  go_wp2
  go_loopg [3, 4] k (fun kq v3 v4 w' => ∃ (x3_1 : List (List (S33))) (x4_1 : Int), v4 = .int .i64 x4_1 ∧ Aside0 (cordonref11_Distinct.l0 kq l0 x3_1 x4_1 = some r) ∧ Aside0 (kq ≤ k) ∧ Aside0 (Kd.V (Kd.slice 33 k33) 22 w' w.heap.size (fun k_ => (P0_ k_ ∨ w.heap.size ≤ k_) ∧ some k_ ≠ (v3 : Value).ownBlock) (.slice A0 l0.length c0) l0) ∧ Aside0 (Kd.N (Kd.slice 33 k33) 22 w' w.heap.size (fun k_ => (P0_ k_ ∨ w.heap.size ≤ k_)) v3 x3_1) ∧ Aside0 (Below w.heap.size w w'))
  case atStart => exact ⟨(([] : List (List (S33)))), (0), (by first | rfl | (simp; done) | (simp [*]; done)), H', ⟨Nat.le_refl _⟩, ⟨by (with_reducible repeat (first | apply Kd.V_alloc | apply Kd.V_drewN | apply Kd.V_drew)); exact Kd.V_mono HO0.out (fun _ hk => ⟨hk, (by simp [Value.ownBlock])⟩)⟩, ⟨by first | exact Kd.S_nil _ _ _ _ _ | exact Kd.N_nil _ _ _ _ _ | exact Kd.V_nil _ _ _ _ _ | exact Kd.Q_nil _ _ _ _ _ | exact Kd.R_nil _ _ _ _ _⟩, ⟨by repeat (first | (with_reducible first | exact HB.out | apply below_alloc | apply pw_below_drewN | apply below_drew1) | exact HB.out)⟩⟩
  case round =>
    clear H'
    obtain ⟨x3_1, x4_1, rfl, HA, HK1, HO_0, HO_3, HB⟩ := hrel
    cases gk with
    | zero => exact absurd HA.out (by simp [cordonref11_Distinct.l0])
    | succ k1 =>
      have H := HA.out
      clear HA
      simp only [cordonref11_Distinct.l0] at H
      by_cases c2 : x4_1 < (l0.length : Int)
      · rw [if_pos c2] at H
        have c2b0 : decide (x4_1 < (l0.length : Int)) = true := decide_eq_true c2
        clear c2
        by_cases c3 : 0 ≤ x4_1
        · rw [if_pos c3] at H
          have c3b0 : decide (0 ≤ x4_1) = true := decide_eq_true c3
          clear c3
          replace H := Option.bind_eq_some_iff.mp H
          obtain ⟨t693, A40, H⟩ := H
          replace H : (if t693 = true then (cordonref11_Distinct.l0 k1 l0 x3_1 (wrap64 (x4_1 + 1))) else (if x3_1.length < 5864062014805 then (cordonref11_Distinct.l0 k1 l0 (x3_1 ++ [rd_L4 l0 x4_1]) (wrap64 (x4_1 + 1))) else (none))) = some r := H
          have A4 := Aside0.mk A40
          clear A40
          by_cases c5 : t693 = true
          · subst c5
            have H1 : (cordonref11_Distinct.l0 k1 l0 x3_1 (wrap64 (x4_1 + 1))) = some r := by rw [if_pos rfl] at H; exact H
            clear H
            have H := H1
            clear H1
            have H' := Aside0.mk H
            clear H
            have p692 : 0 ≤ (x4_1 : Int) := of_decide_eq_true (by first | (with_reducible assumption) | assumption)
            have q692 : x4_1 < (l0.length : Int) := of_decide_eq_true (by first | (with_reducible assumption) | assumption)
            obtain ⟨ad692, A692_0, c692_0, e692, hx692_0, hl692_0, hi692_0⟩ := at_L4 (Kd.V_reads' HO_0.out).2.2 x4_1 p692 q692
            cases e692
            obtain ⟨ce692, hce692, hMe692, hcc692⟩ := Kd.V_get HO_0.out [] x4_1 p692 (by first | exact q692 | exact of_decide_eq_true (by first | (with_reducible assumption) | assumption) | (have e_ := (Kd.V_reads' HO_0.out).1; omega))
            obtain ⟨ua692_0, uc692_0, rfl, ul692_0, ge692_0⟩ := Kd.FK_slice_open hMe692
            have hv692_0 := hcc692 0 _ rfl
            rw [Nat.add_zero, show ((Kd.slice 33 k33)).sz = 1 from rfl, Nat.mul_one] at hv692_0
            replace hv692_0 := Option.some.inj (hv692_0.symm.trans hx692_0)
            injection hv692_0 with hva_ hvn_ hvc_
            rw [hva_] at ge692_0
            rw [hvc_] at ul692_0
            have HL692_0 := Aside0.mk (show Kd.V k33 33 _ w.heap.size _ _ (rd_L4 l0 x4_1) from Kd.V_mk ul692_0 ge692_0)
            clear hva_ hvn_ hvc_ ge692_0 ul692_0
            clear hcc692 hce692
            have HR692_0 := Aside0.mk hi692_0
            have HC692_0 := Aside0.mk hl692_0
            clear hi692_0 hl692_0
            replace p692 := eq_true p692
            replace q692 := eq_true q692
            obtain ⟨Ao6, co6, eo6⟩ := Kd.N_slice HO_3.out
            subst eo6
            go_wp2_with (first | ((with_reducible refine gate_callee (f := 71) rfl ?_); refine goesL_ (some 16) rfl rfl Try.func71 (by kernel_rfl) rfl #[.slice Ao6 x3_1.length co6, .slice A692_0 (rd_L4 l0 x4_1).length c692_0] rfl (by (try simp only [List.map_toArray, List.map_cons, List.map_nil]); first | done | rfl | (simp only [List.length_drop, List.length_take]; rfl)) ?_; (with_reducible refine (cordonref11_In.calls k1 _ _ x3_1 _ _ (rd_L4 l0 x4_1) true _ ?side1 ?side2 ?side3 ?side4 A4.out).mono ?_); (case side1 => repeat (first | exact (Kd.N_reads' HO_3.out).2.2 | (with_reducible refine Kd.C_alloc ?_ _) | (with_reducible refine Kd.C_drewN ?_ _) | (with_reducible refine Kd.C_drew ?_))); (case side2 => exact (Kd.N_reads' HO_3.out).2.1); (case side3 => repeat (first | exact (by repeat (first | (with_reducible exact HR692_0.out) | (with_reducible refine Kd.C_alloc ?_ _) | (with_reducible refine Kd.C_drewN ?_ _) | (with_reducible refine Kd.C_drew ?_) | exact HR692_0.out)) | (with_reducible refine Kd.C_alloc ?_ _) | (with_reducible refine Kd.C_drewN ?_ _) | (with_reducible refine Kd.C_drew ?_))); (case side4 => exact HC692_0.out); rintro e w' ⟨rfl, ⟨nd, rfl⟩⟩; refine ⟨_, rfl, ?_⟩))
            go_roundg k1
            case measure => have := HK1.out; omega
            case rel => exact ⟨(x3_1), (wrap64 (x4_1 + 1)), (by first | rfl | (simp; done) | (simp [*]; done)), H', ⟨by have := HK1.out; omega⟩, ⟨by (with_reducible repeat (first | apply Kd.V_alloc | apply Kd.V_drewN | apply Kd.V_drew)); exact HO_0.out⟩, ⟨by (with_reducible repeat (first | apply Kd.N_alloc | apply Kd.N_drewN | apply Kd.N_drew)); exact HO_3.out⟩, ⟨by repeat (first | (with_reducible first | exact HB.out | apply below_alloc | apply pw_below_drewN | apply below_drew1) | exact HB.out)⟩⟩
          · replace c5 := Bool.eq_false_iff.mpr c5
            subst c5
            have H1 : (if x3_1.length < 5864062014805 then (cordonref11_Distinct.l0 k1 l0 (x3_1 ++ [rd_L4 l0 x4_1]) (wrap64 (x4_1 + 1))) else (none)) = some r := by rw [if_neg (show ¬ (false = true) by decide)] at H; exact H
            clear H
            have H := H1
            clear H1
            by_cases c7 : x3_1.length < 5864062014805
            · rw [if_pos c7] at H
              have LMc7 := Aside0.mk c7
              clear c7
              obtain ⟨y695, hy695⟩ : ∃ y_ : List (List (S33)), y_ = (x3_1 ++ [rd_L4 l0 x4_1]) := ⟨_, rfl⟩
              replace H : (cordonref11_Distinct.l0 k1 l0 y695 (wrap64 (x4_1 + 1))) = some r := by first | (rw [hy695]; with_reducible exact H) | (have H2_ := (Option.bind_some _ _).symm.trans H; rw [hy695]; with_reducible exact H2_) | (have H2_ := (Option.bind_some _ _).symm.trans H; with_reducible exact H2_) | with_reducible exact H | (rw [hy695]; exact H) | exact H
              have Ny695 := Aside0.mk hy695
              clear hy695
              have H' := Aside0.mk H
              clear H
              have p692 : 0 ≤ (x4_1 : Int) := of_decide_eq_true (by first | (with_reducible assumption) | assumption)
              have q692 : x4_1 < (l0.length : Int) := of_decide_eq_true (by first | (with_reducible assumption) | assumption)
              obtain ⟨ad692, A692_0, c692_0, e692, hx692_0, hl692_0, hi692_0⟩ := at_L4 (Kd.V_reads' HO_0.out).2.2 x4_1 p692 q692
              cases e692
              obtain ⟨ce692, hce692, hMe692, hcc692⟩ := Kd.V_get HO_0.out [] x4_1 p692 (by first | exact q692 | exact of_decide_eq_true (by first | (with_reducible assumption) | assumption) | (have e_ := (Kd.V_reads' HO_0.out).1; omega))
              obtain ⟨ua692_0, uc692_0, rfl, ul692_0, ge692_0⟩ := Kd.FK_slice_open hMe692
              have hv692_0 := hcc692 0 _ rfl
              rw [Nat.add_zero, show ((Kd.slice 33 k33)).sz = 1 from rfl, Nat.mul_one] at hv692_0
              replace hv692_0 := Option.some.inj (hv692_0.symm.trans hx692_0)
              injection hv692_0 with hva_ hvn_ hvc_
              rw [hva_] at ge692_0
              rw [hvc_] at ul692_0
              have HL692_0 := Aside0.mk (show Kd.V k33 33 _ w.heap.size _ _ (rd_L4 l0 x4_1) from Kd.V_mk ul692_0 ge692_0)
              clear hva_ hvn_ hvc_ ge692_0 ul692_0
              clear hcc692 hce692
              have HR692_0 := Aside0.mk hi692_0
              have HC692_0 := Aside0.mk hl692_0
              clear hi692_0 hl692_0
              replace p692 := eq_true p692
              replace q692 := eq_true q692
              obtain ⟨Ao8, co8, eo8⟩ := Kd.N_slice HO_3.out
              subst eo8
              go_wp2_with (first | ((with_reducible refine gate_callee (f := 71) rfl ?_); refine goesL_ (some 16) rfl rfl Try.func71 (by kernel_rfl) rfl #[.slice Ao8 x3_1.length co8, .slice A692_0 (rd_L4 l0 x4_1).length c692_0] rfl (by (try simp only [List.map_toArray, List.map_cons, List.map_nil]); first | done | rfl | (simp only [List.length_drop, List.length_take]; rfl)) ?_; (with_reducible refine (cordonref11_In.calls k1 _ _ x3_1 _ _ (rd_L4 l0 x4_1) false _ ?side1 ?side2 ?side3 ?side4 A4.out).mono ?_); (case side1 => repeat (first | exact (Kd.N_reads' HO_3.out).2.2 | (with_reducible refine Kd.C_alloc ?_ _) | (with_reducible refine Kd.C_drewN ?_ _) | (with_reducible refine Kd.C_drew ?_))); (case side2 => exact (Kd.N_reads' HO_3.out).2.1); (case side3 => repeat (first | exact (by repeat (first | (with_reducible exact HR692_0.out) | (with_reducible refine Kd.C_alloc ?_ _) | (with_reducible refine Kd.C_drewN ?_ _) | (with_reducible refine Kd.C_drew ?_) | exact HR692_0.out)) | (with_reducible refine Kd.C_alloc ?_ _) | (with_reducible refine Kd.C_drewN ?_ _) | (with_reducible refine Kd.C_drew ?_))); (case side4 => exact HC692_0.out); rintro e w' ⟨rfl, ⟨nd, rfl⟩⟩; refine ⟨_, rfl, ?_⟩; have p694 : 0 ≤ (x4_1 : Int) := of_decide_eq_true (by first | (with_reducible assumption) | assumption); have q694 : x4_1 < (l0.length : Int) := of_decide_eq_true (by first | (with_reducible assumption) | assumption); obtain ⟨ad694, A694_0, c694_0, e694, hx694_0, hl694_0, hi694_0⟩ := at_L4 (Kd.V_reads' HO_0.out).2.2 x4_1 p694 q694; obtain rfl : ad692 = ad694 := (by injection e694); obtain ⟨ce694, hce694, hMe694, hcc694⟩ := Kd.V_get HO_0.out [] x4_1 p694 (by first | exact q694 | exact of_decide_eq_true (by first | (with_reducible assumption) | assumption) | (have e_ := (Kd.V_reads' HO_0.out).1; omega)); obtain ⟨ua694_0, uc694_0, rfl, ul694_0, ge694_0⟩ := Kd.FK_slice_open hMe694; have hv694_0 := hcc694 0 _ rfl; rw [Nat.add_zero, show ((Kd.slice 33 k33)).sz = 1 from rfl, Nat.mul_one] at hv694_0; replace hv694_0 := Option.some.inj (hv694_0.symm.trans hx694_0); injection hv694_0 with hva_ hvn_ hvc_; rw [hva_] at ge694_0; rw [hvc_] at ul694_0; have HL694_0 := Aside0.mk (show Kd.V k33 33 _ w.heap.size _ _ (rd_L4 l0 x4_1) from Kd.V_mk ul694_0 ge694_0); clear hva_ hvn_ hvc_ ge694_0 ul694_0; clear hcc694 hce694; have HR694_0 := Aside0.mk hi694_0; have HC694_0 := Aside0.mk hl694_0; clear hi694_0 hl694_0; replace p694 := eq_true p694; replace q694 := eq_true q694; have ea_ := Option.some.inj (hx692_0.symm.trans hx694_0); injection ea_ with ea_ en_ ec_; subst ea_; subst ec_; clear en_) | ((with_reducible refine gate_builtin (b := .append) (xs := #[.tmp 18, .tmp 23]) rfl ?_); at_builtin; refine Kd.N_append (Kd.slice 33 k33) (w0 := w) w.heap.size rfl (.tmp 18) (.tmp 23) 58 22 (.slice none 0 0) 24 rfl Try.underlying58 info22 rfl (by decide) (by omega) (.slice Ao8 x3_1.length co8) x3_1 (rd_L4 l0 x4_1) [.slice A692_0 (rd_L4 l0 x4_1).length c692_0] (fun k_ => (P0_ k_ ∨ w.heap.size ≤ k_)) (fun k_ => ((fun k_ => (P0_ k_ ∨ w.heap.size ≤ k_))) k_ ∧ some k_ ≠ (.slice Ao8 x3_1.length co8 : Value).ownBlock) rfl rfl ?aP (fun _ hk => hk) ?aF ?aO ?aB ?aS ?aL ?_; (case aP => exact (Kd.FK_slice_mk (Kd.V_reads' (Kd.V_mono (ok' := (fun k_ => ((fun k_ => (P0_ k_ ∨ w.heap.size ≤ k_))) k_ ∧ some k_ ≠ (.slice Ao8 x3_1.length co8 : Value).ownBlock)) (Kd.V_drewN HL694_0.out nd) (fun k_ hk => ⟨hk.1, hk.2⟩))).2.1 (Kd.V_F (Kd.V_mono (ok' := (fun k_ => ((fun k_ => (P0_ k_ ∨ w.heap.size ≤ k_))) k_ ∧ some k_ ≠ (.slice Ao8 x3_1.length co8 : Value).ownBlock)) (Kd.V_drewN HL694_0.out nd) (fun k_ hk => ⟨hk.1, hk.2⟩))))); (case aB => exact (by repeat (first | (with_reducible first | exact HB.out | apply below_alloc | apply pw_below_drewN | apply below_drew1) | exact HB.out))); (case aF => exact (fun k_ hk => (.inr (Nat.le_trans (below_size (by repeat (first | (with_reducible first | exact HB.out | apply below_alloc | apply pw_below_drewN | apply below_drew1) | exact HB.out))) hk)))); (case aO => exact (by (with_reducible repeat (first | apply Kd.N_alloc | apply Kd.N_drewN | apply Kd.N_drew)); exact HO_3.out)); (case aS => exact (below_size (by repeat (first | (with_reducible first | exact HB.out | apply below_alloc | apply pw_below_drewN | apply below_drew1) | exact HB.out)))); (case aL => have := LMc7.out; omega); intro v696 w9 ho hb hg hat; rw [← Ny695.out] at ho; have n0_ := Aside0.mk (Kd.V_afterv (ok := (fun k_ => (P0_ k_ ∨ w.heap.size ≤ k_))) (by (with_reducible repeat (first | apply Kd.V_alloc | apply Kd.V_drewN | apply Kd.V_drew)); exact HO_0.out) hg hat); have n1_ := Aside0.mk (Kd.V_afterv (ok := (fun k_ => (P0_ k_ ∨ w.heap.size ≤ k_))) (by (with_reducible repeat (first | apply Kd.V_alloc | apply Kd.V_drewN | apply Kd.V_drew)); exact HL692_0.out) hg hat); have n2_ := Aside0.mk (Kd.V_afterv (ok := (fun k_ => (P0_ k_ ∨ w.heap.size ≤ k_))) (by (with_reducible repeat (first | apply Kd.V_alloc | apply Kd.V_drewN | apply Kd.V_drew)); exact HL694_0.out) hg hat); have n3_ := Aside0.mk (hb); have n4_ := Aside0.mk (ho); clear HO_0; clear HL692_0; clear HL694_0; clear HB; clear HO_3; have HO_0 := n0_; have HL692_0 := n1_; have HL694_0 := n2_; have HB := n3_; have HO697 := n4_; clear n0_ n1_ n2_ n3_ n4_; clear ho hb hg hat))
              go_roundg k1
              case measure => have := HK1.out; omega
              case rel => exact ⟨(y695), (wrap64 (x4_1 + 1)), (by first | rfl | (simp; done) | (simp [*]; done)), H', ⟨by have := HK1.out; omega⟩, ⟨by (with_reducible repeat (first | apply Kd.V_alloc | apply Kd.V_drewN | apply Kd.V_drew)); exact HO_0.out⟩, ⟨by (with_reducible repeat (first | apply Kd.N_alloc | apply Kd.N_drewN | apply Kd.N_drew)); exact HO697.out⟩, ⟨by repeat (first | (with_reducible first | exact HB.out | apply below_alloc | apply pw_below_drewN | apply below_drew1) | exact HB.out)⟩⟩
            · rw [if_neg c7] at H
              exact absurd H (by simp)
        · rw [if_neg c3] at H
          exact absurd H (by simp)
      · rw [if_neg c2] at H
        have c2b0 : decide (x4_1 < (l0.length : Int)) = false := decide_eq_false c2
        clear c2
        obtain rfl := Option.some.inj H
        go_wp2
        go_ret
        exact ⟨_, by first | rfl | (simp [errW_none, errW_some] <;> rfl) | (simp [*, errW_none, errW_some] <;> rfl), by (with_reducible repeat (first | apply Kd.N_alloc | apply Kd.N_drewN | apply Kd.N_drew)); exact HO_3.out, by repeat (first | (with_reducible first | exact HB.out | apply below_alloc | apply pw_below_drewN | apply below_drew1) | exact HB.out)⟩
end Go.Proofs.Ythghflgmeepnlaa.Pa
end
section
namespace Go.Proofs.Ythghflgmeepnlaa.Pa
open Go.RowKit Go.Proofs.YthghflgmeepnlaaW.PrintWords Go.Proofs.YthghflgmeepnlaaW.PrintLast Go.Proofs.YthghflgmeepnlaaW.PrintMore
attribute [local go_sem] max2_int max_two
set_option linter.unusedVariables false
set_option linter.unusedSimpArgs false
end Go.Proofs.Ythghflgmeepnlaa.Pa
end
section
namespace Go.Proofs.Ythghflgmeepnlaa.Pa
open Go.RowKit Go.Proofs.YthghflgmeepnlaaW.PrintWords Go.Proofs.YthghflgmeepnlaaW.PrintLast Go.Proofs.YthghflgmeepnlaaW.PrintMore
set_option linter.unusedVariables false
set_option linter.unusedSimpArgs false
/-- A row that is gone through. -/
def gR (r : List S33) : Prop := r.length ≤ 40 ∧ ∀ y ∈ r, rightV y = 0 ∧ -9223372036854775808 ≤ y.f1 ∧ y.f1 ≤ 9223372036854775807
/-- A row's key. -/
abbrev kb (r : List S33) : List UInt8 := ky (bytesOfRow r)
theorem errR_all0 : ∀ {l : List S33}, (∀ y ∈ l, rightV y = 0) → errR l = 0
  | [], _ => rfl
  | x :: l, h => by
    unfold errR
    rw [if_pos (h x (by simp))]
    exact errR_all0 (fun y hy => h y (by simp [hy]))
theorem kb_is {r : List S33} (h : gR r) : kb r = bytesR r := by
  unfold kb ky bytesOfRow encode
  rw [if_neg (by simp [errR_all0 (fun y hy => (h.2 y hy).1)]), if_neg (by have := h.1; omega)]
theorem kb_iff {r r' : List S33} (h : gR r) (h' : gR r') : kb r = kb r' ↔ ordL r r' = 0 := by
  rw [kb_is h, kb_is h', ← bytes_cmp r r' h.2 h'.2]
  exact (lin_bytes.zero _ _).symm
theorem max_ok {r : List S33} (h : gR r) : (bytesOfRow r).size ≤ maxLen := by
  have e : (bytesOfRow r).size = (kb r).length := by unfold kb ky; rw [Array.length_toList]; rfl
  have h1 := bytesR_length (l := r) (fun y hy => (h.2 y hy).1)
  have h2 := h.1
  rw [e, kb_is h]
  unfold maxLen
  omega
theorem same_key {r r' : List S33} (h : gR r) (h' : gR r') (k : Nat) : cordonref02_Same.f (k + 61) r r' = some (decide (kb r = kb r')) := by
  rw [Pure.same_is r r' (by have := h.1; omega)]
  congr 1
  rw [decide_eq_decide]
  exact (kb_iff h h').symm
theorem keysOf_drop {l : List (List S33)} {i : Nat} (h1 : i < l.length) : keysOf (l.drop i) = kb (rd_L4 l (i : Int)) :: keysOf (l.drop (i + 1)) := by
  have := drop_keys h1
  unfold keysOf at *
  rw [List.map_drop, this, List.map_drop]
theorem rd_in {l : List (List S33)} {i : Nat} (h1 : i < l.length) : rd_L4 l (i : Int) ∈ l := by
  unfold rd_L4
  rw [Int.toNat_natCast, List.getD_eq_getElem?_getD, List.getElem?_eq_getElem h1]
  exact List.getElem_mem h1
theorem drop_rdN {l : List (List S33)} {i : Nat} (h1 : i < l.length) : l.drop i = rd_L4 l (i : Int) :: l.drop (i + 1) := by
  have := drop_rdL (l := l) (i := (i : Int)) (by omega) (by omega)
  rwa [Int.toNat_natCast, show ((i : Int) + 1).toNat = i + 1 by omega] at this
theorem wrapN (i : Nat) (h : i < 1000000000) : wrap64 ((i : Int) + 1) = ((i + 1 : Nat) : Int) := by unfold wrap64; omega
theorem rsame_l0 (l : List (List S33)) (hg : ∀ r ∈ l, gR r) (hl : l.length < 1000000000) (d : Nat) : ∀ (k i : Nat), i + d = l.length → cordonref11_Same.l0 (k + d + 62) l l (i : Int) = some true := by
  induction d with
  | zero =>
    intro k i hd
    rw [show k + 0 + 62 = (k + 61) + 1 from rfl, cordonref11_Same.l0, if_neg (by omega)]
  | succ d ih =>
    intro k i hd
    rw [show k + (d + 1) + 62 = (k + d + 1 + 61) + 1 by omega, cordonref11_Same.l0, if_pos (by omega), if_pos (by omega), if_pos (by omega), same_key (hg _ (rd_in (by omega))) (hg _ (rd_in (by omega))), Option.bind_some]
    rw [if_pos (by simp), wrapN i (by omega), show k + d + 1 + 61 = k + d + 62 by omega]
    exact ih k (i + 1) (by omega)
theorem rsame_is (l : List (List S33)) (hg : ∀ r ∈ l, gR r) (hl : l.length < 1000000000) (k : Nat) : cordonref11_Same.f (k + l.length + 62) l l = some true := by
  unfold cordonref11_Same.f
  rw [if_pos rfl]
  exact rsame_l0 l hg hl l.length k 0 (by omega)
theorem in_l0 (l : List (List S33)) (r : List S33) (hg : ∀ r ∈ l, gR r) (hr : gR r) (hl : l.length < 1000000000) (d : Nat) : ∀ (k i : Nat), i + d = l.length → cordonref11_In.l0 (k + d + 62) l r (i : Int) = some (decide (kb r ∈ keysOf (l.drop i))) := by
  induction d with
  | zero =>
    intro k i hd
    rw [show k + 0 + 62 = (k + 61) + 1 from rfl, cordonref11_In.l0, if_neg (by omega), List.drop_eq_nil_of_le (by omega)]
    rfl
  | succ d ih =>
    intro k i hd
    rw [show k + (d + 1) + 62 = (k + d + 1 + 61) + 1 by omega, cordonref11_In.l0, if_pos (by omega), if_pos (by omega), same_key (hg _ (rd_in (by omega))) hr, Option.bind_some, keysOf_drop (by omega)]
    by_cases h : kb (rd_L4 l (i : Int)) = kb r
    · rw [if_pos (by simp [h]), h]
      simp
    · rw [if_neg (by simp [h]), wrapN i (by omega), show k + d + 1 + 61 = k + d + 62 by omega, ih k (i + 1) (by omega)]
      congr 1
      rw [decide_eq_decide]
      exact ⟨fun q => List.mem_cons_of_mem _ q, fun q => by
        rcases List.mem_cons.1 q with q | q
        · exact absurd q.symm h
        · exact q⟩
theorem in_is (l : List (List S33)) (r : List S33) (hg : ∀ r ∈ l, gR r) (hr : gR r) (hl : l.length < 1000000000) (k : Nat) : cordonref11_In.f (k + l.length + 62) l r = some (decide (kb r ∈ keysOf l)) := by
  unfold cordonref11_In.f
  exact in_l0 l r hg hr hl l.length k 0 (by omega)
theorem keepL_congr (may : ByteArray → Bool) : ∀ (l : List (List S33)) (s t : List (List UInt8)), (∀ x, x ∈ s ↔ x ∈ t) → keepL may s l = keepL may t l
  | [], s, t, h => rfl
  | r :: l, s, t, h => by
    unfold keepL
    have e : s.count (ky (bytesOfRow r)) = 0 ↔ t.count (ky (bytesOfRow r)) = 0 := by rw [List.count_eq_zero, List.count_eq_zero, h]
    have ih := keepL_congr may l (ky (bytesOfRow r) :: s) (ky (bytesOfRow r) :: t) (fun x => by simp [h x])
    by_cases c : s.count (ky (bytesOfRow r)) = 0 ∧ may (bytesOfRow r) = true
    · rw [if_pos c, if_pos ⟨e.1 c.1, c.2⟩, ih]
    · rw [if_neg c, if_neg (fun q => c ⟨e.2 q.1, q.2⟩), ih]
theorem keepL_filter (may : ByteArray → Bool) : ∀ (l : List (List S33)) (s : List (List UInt8)), keepL may s l = (keepL (fun _ => true) s l).filter (fun r => may (bytesOfRow r))
  | [], s => rfl
  | r :: l, s => by
    unfold keepL
    have ih := keepL_filter may l (ky (bytesOfRow r) :: s)
    by_cases c : s.count (ky (bytesOfRow r)) = 0
    · by_cases m : may (bytesOfRow r) = true
      · rw [if_pos ⟨c, m⟩, if_pos ⟨c, rfl⟩, List.filter_cons_of_pos (p := fun r => may (bytesOfRow r)) m, ih]
      · rw [if_neg (fun q => m q.2), if_pos ⟨c, rfl⟩, List.filter_cons_of_neg (p := fun r => may (bytesOfRow r)) m, ih]
    · rw [if_neg (fun q => c q.1), if_neg (fun q => c q.1), ih]
theorem keepL_sub (may : ByteArray → Bool) : ∀ (l : List (List S33)) (s : List (List UInt8)), ∀ r ∈ keepL may s l, r ∈ l
  | [], s, r, h => by simp [keepL] at h
  | x :: l, s, r, h => by
    unfold keepL at h
    split at h
    · rcases List.mem_cons.1 h with h | h
      · simp [h]
      · exact List.mem_cons_of_mem _ (keepL_sub may l _ r h)
    · exact List.mem_cons_of_mem _ (keepL_sub may l _ r h)
theorem keepL_len (may : ByteArray → Bool) : ∀ (l : List (List S33)) (s : List (List UInt8)), (keepL may s l).length ≤ l.length
  | [], s => by simp [keepL]
  | x :: l, s => by
    unfold keepL
    split
    · have := keepL_len may l (ky (bytesOfRow x) :: s); simp; omega
    · have := keepL_len may l (ky (bytesOfRow x) :: s); simp; omega
theorem dist_l0 (l : List (List S33)) (hg : ∀ r ∈ l, gR r) (hl : l.length < 1000000000) (d : Nat) : ∀ (k i : Nat) (out : List (List S33)), i + d = l.length → out.length ≤ i → (∀ r ∈ out, gR r) →
    cordonref11_Distinct.l0 (k + d + l.length + 63) l out (i : Int) = some (out ++ keepL (fun _ => true) (keysOf out) (l.drop i)) := by
  induction d with
  | zero =>
    intro k i out hd ho hgo
    rw [show k + 0 + l.length + 63 = (k + l.length + 62) + 1 by omega, cordonref11_Distinct.l0, if_neg (by omega), List.drop_eq_nil_of_le (by omega)]
    simp [keepL]
  | succ d ih =>
    intro k i out hd ho hgo
    have hx := hg _ (rd_in (l := l) (i := i) (by omega))
    rw [show k + (d + 1) + l.length + 63 = (k + d + l.length + 63) + 1 by omega, cordonref11_Distinct.l0, if_pos (by omega), if_pos (by omega), show k + d + l.length + 63 = (k + d + 1 + (l.length - out.length)) + out.length + 62 by omega, in_is out _ hgo hx (by omega), Option.bind_some,
      show (k + d + 1 + (l.length - out.length)) + out.length + 62 = k + d + l.length + 63 by omega, wrapN i (by omega), drop_rdN (l := l) (i := i) (by omega), keepL]
    by_cases h : kb (rd_L4 l (i : Int)) ∈ keysOf out
    · rw [if_pos (by simp [h]), ih k (i + 1) out (by omega) (by omega) hgo, if_neg (fun q => by have := List.count_eq_zero.1 q.1; exact this h)]
      congr 2
      exact keepL_congr _ _ _ _ (fun x => by
        constructor
        · exact fun hx => List.mem_cons_of_mem _ hx
        · intro hx; rcases List.mem_cons.1 hx with rfl | hx
          · exact h
          · exact hx)
    · rw [if_neg (by simp [h]), if_pos (by omega), ih k (i + 1) (out ++ [rd_L4 l (i : Int)]) (by omega) (by simp; omega) (fun r hr => by
          rcases List.mem_append.1 hr with hr | hr
          · exact hgo r hr
          · rw [List.mem_singleton.1 hr]; exact hx), if_pos ⟨List.count_eq_zero.2 h, rfl⟩, List.append_assoc]
      have e : keepL (fun _ => true) (keysOf (out ++ [rd_L4 l (i : Int)])) (l.drop (i + 1)) = keepL (fun _ => true) (ky (bytesOfRow (rd_L4 l (i : Int))) :: keysOf out) (l.drop (i + 1)) :=
        keepL_congr _ _ _ _ (fun x => by unfold keysOf; simp [or_comm])
      rw [e]
      rfl
theorem dist_is (l : List (List S33)) (hg : ∀ r ∈ l, gR r) (hl : l.length < 1000000000) (k : Nat) : cordonref11_Distinct.f (k + l.length + l.length + 63) l = some (distinctL l) := by
  unfold cordonref11_Distinct.f
  have := dist_l0 l hg hl l.length k 0 [] (by omega) (by simp) (by simp)
  rw [List.drop_zero, List.nil_append, Int.natCast_zero] at this
  exact this
theorem right11 (k : Nat) (x : S33) : cordonlaw01_Right.f (k + 1) x.f0 x.f1 x.f2 = some (rightV x == 0) := by
  unfold cordonlaw01_Right.f
  rw [right_ref k x]
  rfl
theorem few_l2 (x9 : List (List (List S33))) (x10 x11 : Int) (x18 : List (List S33)) (x19 x20 : Int) (row : List S33) (hl : row.length ≤ 9223372036854775807) (C : Prop)
    (hn : ∃ k r, cordonlaw11_Few.l1 k x9 x10 x11 x18 x19 (wrap64 (x20 + 1)) = some r ∧ (r = true → C)) (d : Nat) : ∀ (i : Nat), i + d = row.length →
    ∃ k r, cordonlaw11_Few.l2 k x9 x10 x11 x18 x19 x20 row (row.length : Int) (i : Int) = some r ∧ (r = true → C ∧ ∀ v ∈ row.drop i, rightV v = 0) := by
  induction d with
  | zero =>
    intro i hd
    obtain ⟨k, r, h, hr⟩ := hn
    refine ⟨k + 1, r, ?_, fun q => ⟨hr q, by rw [List.drop_eq_nil_of_le (by omega)]; simp⟩⟩
    rw [cordonlaw11_Few.l2, if_neg (by omega), h]
  | succ d ih =>
    intro i hd
    obtain ⟨k, r, h, hr⟩ := ih (i + 1) (by omega)
    have hw : wrap64 ((i : Int) + 1) = ((i + 1 : Nat) : Int) := by unfold wrap64; omega
    have hi : i < row.length := by omega
    have e : rd_T33 row (i : Int) = row[i] := by unfold rd_T33; simp [List.getD_eq_getElem?_getD, List.getElem?_eq_getElem hi]
    by_cases c : rightV row[i] = 0
    · refine ⟨k + 1 + 1, r, ?_, fun q => ⟨(hr q).1, fun v hv => ?_⟩⟩
      · rw [cordonlaw11_Few.l2, if_pos (by omega), if_pos (by omega), if_pos (by omega), right11 k, Option.bind_some, e, c, if_pos (by rfl), hw]
        exact (cordonlaw11_Few.mono_l k).2.2 _ _ _ _ _ _ _ _ _ r h
      · rw [List.drop_eq_getElem_cons hi] at hv
        rcases List.mem_cons.1 hv with rfl | hv
        · exact c
        · exact (hr q).2 v hv
    · refine ⟨1 + 1, false, ?_, fun q => by cases q⟩
      rw [cordonlaw11_Few.l2, if_pos (by omega), if_pos (by omega), if_pos (by omega), right11 0, Option.bind_some, e, if_neg (by simp [c])]
theorem few_l1 (x9 : List (List (List S33))) (x10 x11 : Int) (x18 : List (List S33)) (hl : x18.length ≤ 9223372036854775807) (hx : ∀ r ∈ x18, r.length ≤ 9223372036854775807) (C : Prop)
    (hn : ∃ k r, cordonlaw11_Few.l0 k x9 x10 (wrap64 (x11 + 1)) = some r ∧ (r = true → C)) (d : Nat) : ∀ (i : Nat), i + d = x18.length →
    ∃ k r, cordonlaw11_Few.l1 k x9 x10 x11 x18 (x18.length : Int) (i : Int) = some r ∧ (r = true → C ∧ ∀ l ∈ x18.drop i, l.length ≤ 40 ∧ ∀ v ∈ l, rightV v = 0) := by
  induction d with
  | zero =>
    intro i hd
    obtain ⟨k, r, h, hr⟩ := hn
    refine ⟨k + 1, r, ?_, fun q => ⟨hr q, by rw [List.drop_eq_nil_of_le (by omega)]; simp⟩⟩
    rw [cordonlaw11_Few.l1, if_neg (by omega), h]
  | succ d ih =>
    intro i hd
    have hw : wrap64 ((i : Int) + 1) = ((i + 1 : Nat) : Int) := by unfold wrap64; omega
    have hi : i < x18.length := by omega
    have hrd := rd_in (l := x18) (i := i) hi
    by_cases c : ((rd_L4 x18 (i : Int)).length : Int) > 40
    · refine ⟨0 + 1, false, ?_, fun q => by cases q⟩
      rw [cordonlaw11_Few.l1, if_pos (by omega), if_pos (by omega), if_pos (by omega), if_pos c]
    · obtain ⟨k, r, h, hr⟩ := few_l2 x9 x10 x11 x18 (x18.length : Int) (i : Int) (rd_L4 x18 (i : Int)) (hx _ hrd) _ (by rw [hw]; exact ih (i + 1) (by omega)) (rd_L4 x18 (i : Int)).length 0 (by omega)
      refine ⟨k + 1, r, ?_, fun q => ⟨(hr q).1.1, fun l hlm => ?_⟩⟩
      · rw [cordonlaw11_Few.l1, if_pos (by omega), if_pos (by omega), if_pos (by omega), if_neg c]
        exact h
      · rw [drop_rdN hi] at hlm
        rcases List.mem_cons.1 hlm with rfl | hlm
        · exact ⟨by omega, by simpa using (hr q).2⟩
        · exact (hr q).1.2 l hlm
theorem few_l0' (x9 : List (List (List S33))) (hl : x9.length ≤ 9223372036854775807) (hx : ∀ l ∈ x9, l.length ≤ 9223372036854775807 ∧ ∀ r ∈ l, r.length ≤ 9223372036854775807) (d : Nat) : ∀ (i : Nat), i + d = x9.length →
    ∃ k r, cordonlaw11_Few.l0 k x9 (x9.length : Int) (i : Int) = some r ∧ (r = true → ∀ l ∈ x9.drop i, l.length ≤ 40 ∧ ∀ r ∈ l, r.length ≤ 40 ∧ ∀ v ∈ r, rightV v = 0) := by
  induction d with
  | zero =>
    intro i hd
    refine ⟨0 + 1, true, ?_, fun q => by rw [List.drop_eq_nil_of_le (by omega)]; simp⟩
    rw [cordonlaw11_Few.l0, if_neg (by omega)]
  | succ d ih =>
    intro i hd
    have hw : wrap64 ((i : Int) + 1) = ((i + 1 : Nat) : Int) := by unfold wrap64; omega
    have hi : i < x9.length := by omega
    have e : rd_L5 x9 (i : Int) = x9[i] := by unfold rd_L5; simp [List.getD_eq_getElem?_getD, List.getElem?_eq_getElem hi]
    have hm := hx _ (List.getElem_mem hi)
    by_cases c : ((x9[i]).length : Int) > 40
    · refine ⟨0 + 1, false, ?_, fun q => by cases q⟩
      rw [cordonlaw11_Few.l0, if_pos (by omega), if_pos (by omega), if_pos (by omega), e, if_pos c]
    · obtain ⟨k, r, h, hr⟩ := few_l1 x9 (x9.length : Int) (i : Int) x9[i] hm.1 hm.2 _ (by rw [hw]; exact ih (i + 1) (by omega)) (x9[i]).length 0 (by omega)
      refine ⟨k + 1, r, ?_, fun q l hlm => ?_⟩
      · rw [cordonlaw11_Few.l0, if_pos (by omega), if_pos (by omega), if_pos (by omega), e, if_neg c]
        exact h
      · rw [List.drop_eq_getElem_cons hi] at hlm
        rcases List.mem_cons.1 hlm with rfl | hlm
        · exact ⟨by omega, by simpa using (hr q).2⟩
        · exact (hr q).1 l hlm
/-- A list of rows that is gone through. -/
def gL (l : List (List S33)) : Prop := l.length ≤ 40 ∧ ∀ r ∈ l, gR r
theorem few11 (x9 : List (List (List S33))) (hl : x9.length ≤ 9223372036854775807) (hx : ∀ l ∈ x9, l.length ≤ 9223372036854775807 ∧ ∀ r ∈ l, r.length ≤ 9223372036854775807 ∧ ∀ y ∈ r, okv y) :
    ∃ k r, cordonlaw11_Few.f k x9 = some r ∧ (r = true → ∀ l ∈ x9, gL l) := by
  obtain ⟨k, r, h, hr⟩ := few_l0' x9 hl (fun l hl => ⟨(hx l hl).1, fun r hr => ((hx l hl).2 r hr).1⟩) x9.length 0 (by omega)
  refine ⟨k, r, h, fun q l hlm => ?_⟩
  have h1 := hr q l (by simpa using hlm)
  refine ⟨h1.1, fun r hrm => ⟨(h1.2 r hrm).1, fun y hy => ?_⟩⟩
  have h2 := (((hx l hlm).2 r hrm).2 y hy).2.1
  have h3 : -9223372036854775808 ≤ y.f1 ∧ y.f1 ≤ 9223372036854775807 := by
    simp only [Lit.wf, Bool.and_eq_true, decide_eq_true_eq] at h2
    exact h2
  exact ⟨(h1.2 r hrm).2 y hy, h3⟩
end Go.Proofs.Ythghflgmeepnlaa.Pa
end
section
namespace Go.Proofs.Ythghflgmeepnlaa.Pa
open Go.RowKit Go.Proofs.YthghflgmeepnlaaW.PrintWords Go.Proofs.YthghflgmeepnlaaW.PrintLast Go.Proofs.YthghflgmeepnlaaW.PrintMore
set_option linter.unusedVariables false
set_option linter.unusedSimpArgs false
/-- The bytes of a row's value that may be matched. -/
def cellOf (r : List S33) (i : Int) : Option ByteArray := if 0 ≤ i ∧ i < (r.length : Int) ∧ (rd_T33 r i).f0 ≠ 0 then some (bytesOfRow [rd_T33 r i]) else none
theorem cell_is (r : List S33) (i : Int) (hr : r.length ≤ 1000000) (k : Nat) : rows_cell.f (k + 2000) r i = some ((cellOf r i).getD ⟨#[]⟩, (cellOf r i).isSome) := by
  unfold rows_cell.f cellOf
  by_cases h0 : i < 0
  · rw [if_pos h0, if_neg (by omega)]; rfl
  · rw [if_neg h0]
    by_cases h1 : i ≥ (r.length : Int)
    · rw [if_pos h1, if_neg (by omega)]; rfl
    · rw [if_neg h1, if_pos (by omega), if_pos (by omega)]
      by_cases h2 : (rd_T33 r i).f0 = 0
      · rw [if_pos h2, if_neg (fun q => q.2.2 h2)]; rfl
      · have hw : wrap64 (i + 1) = i + 1 := by unfold wrap64; omega
        rw [if_neg h2, hw, if_pos (by omega), if_pos (by omega), if_pos ⟨by omega, by omega, h2⟩]
        have e : (r.take (i + 1).toNat).drop i.toNat = [rd_T33 r i] := by
          have hlt : i.toNat < r.length := by omega
          rw [show (i + 1).toNat = i.toNat + 1 by omega, List.take_add_one, List.getElem?_eq_getElem hlt, List.drop_append_of_le_length (by rw [List.length_take]; omega), List.drop_eq_nil_of_le (by rw [List.length_take]; omega)]
          unfold rd_T33
          simp [List.getD_eq_getElem?_getD, List.getElem?_eq_getElem hlt]
        rw [e]
        have hb : rows_bytes.f (k + 2000) [rd_T33 r i] = some (bytesOfRow [rd_T33 r i]) := by
          unfold rows_bytes.f bytesOfRow
          have := encode_is (k + 2000 - 2 * [rd_T33 r i].length - 1020) [rd_T33 r i] (by simp)
          rw [show k + 2000 - 2 * [rd_T33 r i].length - 1020 + 2 * [rd_T33 r i].length + 1020 = k + 2000 by simp only [List.length_cons, List.length_nil]; omega] at this
          rw [this]; rfl
        rw [hb]; rfl
/-- rows.cell's contract. -/
theorem cell_calls (A0 : Option Addr) (c0 : Nat) (r : List S33) (i : Int) (w : World) (hr0 : Kd.C k33 w A0 r.length r) (hc0 : r.length ≤ c0) (hr : r.length ≤ 1000000) :
    Calls Try.prog 105 #[.slice A0 r.length c0, .int .i64 i] w fun e w' => e = .returned (.tuple #[.string ((cellOf r i).getD ⟨#[]⟩), .bool (cellOf r i).isSome]) ∧ Below w.heap.size w w' :=
  rows_cell.calls (0 + 2000) A0 c0 r i _ _ w hr0 hc0 (cell_is r i hr 0)
/-- The places among the first m rows whose cell is s. -/
def grp (b : List (List S33)) (j : Int) (m : Nat) (s : List UInt8) : List Nat := (List.range m).filter (fun (n : Nat) => decide ((cellOf (rd_L4 b (n : Int)) j).map ky = some s))
theorem grp_none {b : List (List S33)} {j : Int} {m : Nat} (h : cellOf (rd_L4 b (m : Int)) j = none) (s : List UInt8) : grp b j (m + 1) s = grp b j m s := by
  unfold grp
  rw [List.range_succ, List.filter_append]
  simp [h]
theorem grp_some {b : List (List S33)} {j : Int} {m : Nat} {t : ByteArray} (h : cellOf (rd_L4 b (m : Int)) j = some t) (s : List UInt8) : grp b j (m + 1) s = if s = ky t then grp b j m s ++ [m] else grp b j m s := by
  unfold grp
  rw [List.range_succ, List.filter_append]
  by_cases e : s = ky t
  · rw [if_pos e]; simp [h, e]
  · rw [if_neg e]
    have : ¬ (ky t = s) := fun q => e q.symm
    simp [h, this]
theorem grp_le (b : List (List S33)) (j : Int) (m : Nat) (s : List UInt8) : (grp b j m s).length ≤ m ∧ ∀ n ∈ grp b j m s, n < m := by
  unfold grp
  refine ⟨?_, fun n hn => ?_⟩
  · have := List.length_filter_le (fun (n : Nat) => decide ((cellOf (rd_L4 b (n : Int)) j).map ky = some s)) (List.range m)
    simpa using this
  · have := (List.mem_filter.1 hn).1
    simpa using this
abbrev pr (k n : Nat) : Int × Int := ((k : Int), (n : Int))
/-- The pairs of one row. -/
def prs (b : List (List S33)) (j : Int) (r : List S33) (i : Int) (k : Nat) : List (Int × Int) := match cellOf r i with
  | none => []
  | some s => (grp b j b.length (ky s)).map (pr k)
/-- The pairs of the first m rows. -/
def matchL (a b : List (List S33)) (i j : Int) : Nat → List (Int × Int)
  | 0 => []
  | m + 1 => matchL a b i j m ++ prs b j (rd_L4 a (m : Int)) i m
theorem prs_len (b : List (List S33)) (j : Int) (r : List S33) (i : Int) (k : Nat) : (prs b j r i k).length ≤ b.length := by
  unfold prs
  split
  · simp
  · rw [List.length_map]; exact (grp_le _ _ _ _).1
theorem match_len (a b : List (List S33)) (i j : Int) : ∀ m, (matchL a b i j m).length ≤ m * b.length
  | 0 => by simp [matchL]
  | m + 1 => by
    unfold matchL
    have h1 := match_len a b i j m
    have h2 := prs_len b j (rd_L4 a (m : Int)) i m
    rw [List.length_append, Nat.succ_mul]
    omega
/-- Do two rows match? -/
def hit (r s : List S33) (i j : Int) : Bool := decide (0 ≤ i ∧ i < (r.length : Int)) && decide (0 ≤ j ∧ j < (s.length : Int)) && decide ((rd_T33 r i).f0 ≠ 0) && decide (ordS (rd_T33 r i) (rd_T33 s j) = 0)
theorem rd_gR {r : List S33} (h : gR r) {i : Int} (h0 : 0 ≤ i) (h1 : i < (r.length : Int)) : gR [rd_T33 r i] := by
  refine ⟨by simp, fun y hy => ?_⟩
  rw [List.mem_singleton.1 hy]
  refine h.2 _ ?_
  have hlt : i.toNat < r.length := by omega
  unfold rd_T33
  rw [List.getD_eq_getElem?_getD, List.getElem?_eq_getElem hlt]
  exact List.getElem_mem hlt
theorem ordL_one (x y : S33) : ordL [x] [y] = 0 ↔ ordS x y = 0 := by
  unfold ordL
  by_cases h : ordS x y = 0
  · rw [if_pos h]; simp [h, ordL]
  · rw [if_neg h]
theorem hit_is {r s : List S33} (hr : gR r) (hs : gR s) (i j : Int) : (∃ t, cellOf r i = some t ∧ (cellOf s j).map ky = some (ky t)) ↔ hit r s i j = true := by
  unfold hit
  simp only [Bool.and_eq_true, decide_eq_true_eq]
  constructor
  · rintro ⟨t, h1, h2⟩
    unfold cellOf at h1 h2
    by_cases c1 : 0 ≤ i ∧ i < (r.length : Int) ∧ (rd_T33 r i).f0 ≠ 0
    · rw [if_pos c1] at h1
      by_cases c2 : 0 ≤ j ∧ j < (s.length : Int) ∧ (rd_T33 s j).f0 ≠ 0
      · rw [if_pos c2] at h2
        simp only [Option.some.injEq, Option.map_some] at h1 h2
        refine ⟨⟨⟨⟨c1.1, c1.2.1⟩, c2.1, c2.2.1⟩, c1.2.2⟩, ?_⟩
        have h3 : kb [rd_T33 s j] = kb [rd_T33 r i] := by rw [← h1] at h2; exact h2
        exact (ordL_one _ _).1 ((kb_iff (rd_gR hr c1.1 c1.2.1) (rd_gR hs c2.1 c2.2.1)).1 h3.symm)
      · rw [if_neg c2] at h2; simp at h2
    · rw [if_neg c1] at h1; cases h1
  · rintro ⟨⟨⟨⟨h1, h2⟩, h3, h4⟩, h5⟩, h6⟩
    have e := (lin_val.zero (rd_T33 r i) (rd_T33 s j)).1 h6
    have h7 : (rd_T33 s j).f0 ≠ 0 := by rw [← e.1]; exact h5
    refine ⟨_, by unfold cellOf; rw [if_pos ⟨h1, h2, h5⟩], ?_⟩
    unfold cellOf
    rw [if_pos ⟨h3, h4, h7⟩]
    have h8 := (kb_iff (rd_gR hr h1 h2) (rd_gR hs h3 h4)).2 ((ordL_one _ _).2 h6)
    simp only [Option.map_some]
    exact congrArg some h8.symm
/-- The pairs of one row, by hits. -/
theorem prs_hits {b : List (List S33)} (hb : ∀ r ∈ b, gR r) {r : List S33} (hr : gR r) (i j : Int) (k : Nat) : prs b j r i k = ((List.range b.length).filter (fun (n : Nat) => hit r (rd_L4 b (n : Int)) i j)).map (pr k) := by
  unfold prs
  cases hc : cellOf r i with
  | none =>
    rw [List.filter_eq_nil_iff.2]
    · rfl
    · intro n hn h
      have hn' : n < b.length := by simpa using hn
      obtain ⟨t, h1, _⟩ := (hit_is hr (hb _ (rd_in hn')) i j).2 h
      rw [hc] at h1; cases h1
  | some s =>
    show (grp b j b.length (ky s)).map (pr k) = _
    congr 1
    unfold grp
    refine List.filter_congr (fun n hn => ?_)
    have hn' : n < b.length := by simpa using hn
    rw [Bool.eq_iff_iff, decide_eq_true_eq, ← hit_is hr (hb _ (rd_in hn')) i j]
    constructor
    · intro h; exact ⟨s, hc, h⟩
    · rintro ⟨t, h1, h2⟩
      rw [hc] at h1
      injection h1 with h1
      rw [h1]; exact h2
end Go.Proofs.Ythghflgmeepnlaa.Pa
end
section
namespace Go.Proofs.Ythghflgmeepnlaa.Pa
open Go.RowKit Go.Proofs.YthghflgmeepnlaaW.PrintWords Go.Proofs.YthghflgmeepnlaaW.PrintLast Go.Proofs.YthghflgmeepnlaaW.PrintMore
open Go.Maps
open Go.ChangeShapes (lits)
set_option linter.unusedVariables false
set_option linter.unusedSimpArgs false
theorem zero23m (w : World) : (zeroValue 23).run Try.prog w = .ok (.slice none 0 0) w := by kernel_rfl
theorem info74 : (Try.prog.info? 74).map (fun i => (i.zero, i.size, i.bytes)) = some (some (.agg #[.int .i64 0, .int .i64 0]), 2, 16) := by kernel_rfl
/-- A pair of numbers. -/
abbrev k74 : Kd (Int × Int) := Kd.pair (Kd.int .i64) (Kd.int .i64)
theorem k74_mkF (W : World) (ok : Nat → Prop) (x : Int × Int) : Kd.FK k74 W ok x [.int .i64 x.1, .int .i64 x.2] := fun W2 _ => ⟨[.int .i64 x.1], [.int .i64 x.2], rfl, rfl, rfl⟩
/-- What a map's slice says. -/
def itemsU : DataW Unit → List (DataW Unit)
  | .slice es _ => es
  | _ => []
abbrev zI (l : List Nat) : List Int := l.map (fun (n : Nat) => (n : Int))
theorem lits_inj {a b : List Int} (h : lits (H := Unit) .i64 a = lits .i64 b) : a = b := by
  unfold lits at h
  exact (List.map_inj_right (fun x y hxy => by cases hxy; rfl)).1 h
theorem items_own {w : World} {base : Nat} {v : Value} {zs : List Int} (h : w.ownsInts base 3 .i64 v zs) : itemsU (rowDatum .i64 v zs) = lits .i64 zs := by
  rcases h.datum (H := Unit) with ⟨h1, rfl⟩ | h1 <;> rw [h1] <;> rfl
/-- A map of which rows have which value. -/
structure Grp (w : World) (g n : Nat) (f : List UInt8 → List Nat) : Prop where
  mk ::
  own : ∃ D : DataW Unit, w.ownsGroups Try.prog 9 (g + 1) 3 .i64 g n D ∧ IsMap D ∧ ∀ s : List UInt8, itemsU (D.atKey (.string s) .nil) = lits .i64 (zI (f s))
theorem Grp.start (w : World) {f : List UInt8 → List Nat} (hf : ∀ s, f s = []) : Grp (w.alloc (.map #[] 0)) w.heap.size 0 f := ⟨.map [], World.ownsGroups_made _ _ _ _ _, isMap_empty, fun s => by rw [hf]; rfl⟩
theorem Grp.below {w w1 : World} {g n : Nat} {f : List UInt8 → List Nat} (h : Grp w g n f) (hb : Below w.heap.size w w1) : Grp w1 g n f := by
  obtain ⟨D, h1, h2, h3⟩ := h.own
  refine ⟨D, h1.kept (grown_of_below hb) (by simp) (fun es clock _ x _ => ?_), h2, h3⟩
  cases x.val.ownBlock with
  | none => exact .inl rfl
  | some k => exact .inr (by simp)
theorem Grp.congr {w : World} {g n : Nat} {f f' : List UInt8 → List Nat} (h : Grp w g n f) (e : ∀ s, f s = f' s) : Grp w g n f' := by
  obtain ⟨D, h1, h2, h3⟩ := h.own
  exact ⟨D, h1, h2, fun s => by rw [← e]; exact h3 s⟩
/-- One more. -/
theorem grp_put {D : DataW Unit} (hD : IsMap D) {f : List UInt8 → List Nat} (hf : ∀ s : List UInt8, itemsU (D.atKey (.string s) .nil) = lits .i64 (zI (f s))) {w w1 : World} {base : Nat} {t : List UInt8} {v v' : Value} {zs : List Int} {m : Nat}
    (hat : D.atKey (.string t) .nil = rowDatum .i64 v zs) (hoi : w.ownsInts base 3 .i64 v zs) (hoi' : w1.ownsInts base 3 .i64 v' (zs ++ [(m : Int)])) :
    IsMap (D.put (.string t) (rowDatum .i64 v' (zs ++ [(m : Int)]))) ∧ ∀ s : List UInt8, itemsU ((D.put (.string t) (rowDatum .i64 v' (zs ++ [(m : Int)]))).atKey (.string s) .nil) = lits .i64 (zI (if s = t then f s ++ [m] else f s)) := by
  refine ⟨hD.put _ _, fun s => ?_⟩
  have hz : zs = zI (f t) := by
    have h1 := hf t
    rw [hat, items_own hoi] at h1
    exact lits_inj h1
  by_cases hst : s = t
  · subst hst
    rw [if_pos rfl, atKey_put_same hD (by simp [WideAt.IsKeyLit]), items_own hoi', hz]
    simp
  · rw [if_neg hst, atKey_put_other (fun he => hst (by injection he)), hf s]
theorem C_ints {w : World} {g : Nat} {cur : Array Value} {zs : List Int} (hh : w.heap[g]? = some (.cells cur 3)) (hc2 : zs.length ≤ maxLen) (ht : List.take (zs.length * 1) cur.toList = zs.map (Value.int .i64)) : Kd.C (Kd.int .i64) w (some ⟨g, 0, none⟩) zs.length zs := by
  refine ⟨rfl, by unfold maxLen at hc2; omega, fun _ => ⟨⟨g, 0, none⟩, rfl, fun j p hj => ⟨[.int .i64 p], rfl, rfl, fun i u hu => ?_⟩⟩⟩
  have hi : i = 0 := by
    rcases Nat.eq_zero_or_pos i with q | q
    · exact q
    · rw [List.getElem?_eq_none (by simp; omega)] at hu; cases hu
  subst hi
  simp at hu
  subst hu
  have e : (⟨g, 0, none⟩ : Addr).add (j * (Kd.int .i64).sz + 0) = ⟨g, j, none⟩ := by
    rw [show j * (Kd.int .i64).sz + 0 = j by show j * 1 + 0 = j; omega]
    unfold Addr.add
    split
    · next q => simp [q]
    · simp
  rw [e]
  have hjz : j < zs.length := (List.getElem?_eq_some_iff.1 hj).1
  have h1 : (List.take (zs.length * 1) cur.toList)[j]? = some (.int .i64 p) := by rw [ht, List.getElem?_map, hj]; rfl
  rw [List.getElem?_take_of_lt (by omega), Array.getElem?_toList] at h1
  simp [World.cell?, hh, h1]
/-- What a slice of the map reads as; its row lies below S. -/
theorem own_V {w : World} {base S : Nat} {v : Value} {zs : List Int} (h : w.ownsInts base 3 .i64 v zs) (hS : ∀ g, v.ownBlock = some g → g < S) : ∃ A c, v = .slice A zs.length c ∧ Kd.V (Kd.int .i64) 3 w 0 (fun k => k < S) (.slice A zs.length c) zs := by
  obtain ⟨⟨hl, h⟩, _⟩ := h
  rcases h with ⟨rfl, h0⟩ | ⟨g, cap, cur, rfl, hb, hh, hc1, hc2, hc3, ht⟩
  · refine ⟨none, 0, by rw [h0], ?_⟩
    have : zs = [] := List.eq_nil_of_length_eq_zero h0
    subst this
    exact Kd.V_nil _ _ _ _ _
  · have hg := hS g rfl
    exact ⟨_, _, rfl, Kd.V_mk hc1 (fun W' hW => C_ints ((hW g hg (lt_of_block hh)).trans hh) (Nat.le_trans hc1 hc2) ht)⟩
theorem Grp.shuns {w : World} {g n : Nat} {f : List UInt8 → List Nat} (h : Grp w g n f) : w.Shuns g (fun k => w.heap.size ≤ k) := by
  obtain ⟨D, h1, _, _⟩ := h.own
  exact World.Shuns.reno (No := fun _ => False) (fun _ _ _ _ _ _ _ q => q) h1 (fun k hk => .inr hk)
theorem Grp.lt {w : World} {g n : Nat} {f : List UInt8 → List Nat} (h : Grp w g n f) : g < w.heap.size := by
  obtain ⟨D, ⟨es, clock, hb, _⟩, _⟩ := h.own
  exact lt_of_block hb
/-- The look-up at the operation, the slice told by what it reads as; it lies in the elder world wm. -/
theorem wpList_lookup_grp (w : World) {ops : Array Oper} {rest : List Oper} {o : Oper} {a : Act} {Q : Exit → Act → World → Prop} (hg : o.guard = none) (m x : Operand) (hop : o.op = Op.lookup 108 m x false) {g n : Nat} {f : List UInt8 → List Nat} {wm : World}
    (hm : a.eval m = .map (some g)) (hG : Grp wm g n f) (hb : Below wm.heap.size wm w) (hn : n < maxLen) (s : ByteArray) (hx : a.eval x = .string s) (hkey : keyOf Try.prog 9 (.string s) = some (.string (ky s)))
    (hK : ∀ A c, Kd.V (Kd.int .i64) 3 w 0 (fun k => k < wm.heap.size) (.slice A (f (ky s)).length c) (zI (f (ky s))) → wpList Try.prog ops Q rest (a.put o.dst (.slice A (f (ky s)).length c)) w) : wpList Try.prog ops Q (o :: rest) a w := by
  have hsh := World.Shuns.kept hG.shuns (grown_of_below hb) hG.lt (by simp)
  obtain ⟨D, h1, h2, h3⟩ := (hG.below hb).own
  refine wpList_lookup_groups_shuns w hg m x 108 hop 9 23 3 .i64 law9 Try.underlying108 (zero23m _) (g + 1) g n D hm h1 hn _ _ hx hkey ?_
  intro v zs hat hoi _ _ hs
  have hz : zs = zI (f (ky s)) := by
    have h4 := h3 (ky s)
    rw [hat, items_own hoi] at h4
    exact lits_inj h4
  obtain ⟨A, c, rfl, hV⟩ := own_V (S := wm.heap.size) hoi (fun k hk => Nat.not_le.1 (hs _ hsh k hk))
  have hl : zs.length = (f (ky s)).length := by rw [hz]; simp
  rw [hl] at hV ⊢
  rw [hz] at hV
  exact hK A c hV
theorem cell_none {r : List S33} {i : Int} (h : cellOf r i = none) (hr : gR r) {W : World} {b : Nat} {ok : Nat → Prop} {A : Option Addr} {c : Nat} (hV : Kd.V k33 33 W b ok (.slice A r.length c) r) :
    Calls Try.prog 105 #[.slice A r.length c, .int .i64 i] W fun e w' => e = .returned (.tuple #[.string ⟨#[]⟩, .bool false]) ∧ Below W.heap.size W w' := by
  have := cell_calls A c r i W (Kd.V_reads' hV).2.2 (Kd.V_reads' hV).2.1 (by have := hr.1; omega)
  rw [h] at this
  exact this
theorem cell_some {r : List S33} {i : Int} {t : ByteArray} (h : cellOf r i = some t) (hr : gR r) {W : World} {b : Nat} {ok : Nat → Prop} {A : Option Addr} {c : Nat} (hV : Kd.V k33 33 W b ok (.slice A r.length c) r) :
    Calls Try.prog 105 #[.slice A r.length c, .int .i64 i] W fun e w' => e = .returned (.tuple #[.string t, .bool true]) ∧ Below W.heap.size W w' := by
  have := cell_calls A c r i W (Kd.V_reads' hV).2.2 (Kd.V_reads' hV).2.1 (by have := hr.1; omega)
  rw [h] at this
  exact this
theorem cell_max {r : List S33} {i : Int} {t : ByteArray} (h : cellOf r i = some t) (hr : gR r) : t.size ≤ maxLen := by
  unfold cellOf at h
  by_cases c : 0 ≤ i ∧ i < (r.length : Int) ∧ (rd_T33 r i).f0 ≠ 0
  · rw [if_pos c] at h
    injection h with h
    rw [← h]
    exact max_ok (rd_gR hr c.1 c.2.1)
  · rw [if_neg c] at h; cases h
end Go.Proofs.Ythghflgmeepnlaa.Pa
end
section
namespace Go.Proofs.Ythghflgmeepnlaa.Pa
open Go.RowKit Go.Proofs.YthghflgmeepnlaaW.PrintWords Go.Proofs.YthghflgmeepnlaaW.PrintLast Go.Proofs.YthghflgmeepnlaaW.PrintMore
set_option linter.unusedVariables false
set_option linter.unusedSimpArgs false
/-- A place as a cell. -/
abbrev enN (n : Nat) : Value := .int .i64 (n : Int)
/-- Block g holds these places. -/
def HoldI (W : World) (g : Nat) (xs : List Nat) : Prop := W.heap[g]? = some (.cells (xs.map enN).toArray 3 (0, 0))
theorem HoldI.cell {W : World} {g : Nat} {xs : List Nat} (h : HoldI W g xs) {i x : Nat} (hi : xs[i]? = some x) : W.cell? ⟨g, i, none⟩ = some (enN x) := by
  rw [blk_cell h i]; simp [hi]
theorem HoldI.free {W : World} {g : Nat} {xs : List Nat} (h : HoldI W g xs) (i : Nat) : W.frozen? ⟨g, i, none⟩ = false := by
  simp [World.frozen?, show W.heap[g]? = _ from h]
theorem HoldI.lt {W : World} {g : Nat} {xs : List Nat} (h : HoldI W g xs) : g < W.heap.size := lt_of_block h
theorem HoldI.below {W W1 : World} {g : Nat} {xs : List Nat} (h : HoldI W g xs) (hb : Below W.heap.size W W1) : HoldI W1 g xs := (hb.block g h.lt).trans h
theorem HoldI.set {W : World} {g : Nat} {xs : List Nat} (h : HoldI W g xs) (i x : Nat) : HoldI (W.setCell ⟨g, i, none⟩ (enN x)) g (xs.set i x) := by
  have hlt := h.lt
  have h' : W.heap[g] = .cells (xs.map enN).toArray 3 (0, 0) := by simpa [Array.getElem?_eq_getElem hlt] using (show W.heap[g]? = _ from h)
  unfold HoldI
  show (W.heap.modify g _)[g]? = _
  rw [Array.getElem?_eq_getElem (by simpa using hlt), Array.getElem_modify_self, h']
  simp [List.map_set]
theorem gr_drew {w W : World} {r : Option Nat} (h : w.grownBy W r) : w.grownBy W.drew r := ⟨h.os, h.tape, h.output, h.size, h.block⟩
theorem gr_below {w W W1 : World} {r : Option Nat} (h : w.grownBy W r) (hb : Below W.heap.size W W1) : w.grownBy W1 r :=
  ⟨hb.os.trans h.os, hb.tape.trans h.tape, hb.output.trans h.output, Nat.le_trans h.size hb.size, fun k hk hr => (hb.block k (Nat.lt_of_lt_of_le hk h.size)).trans (h.block k hk hr)⟩
theorem gr_set {w W : World} {g j : Nat} (h : w.grownBy W (some g)) (v : Value) : w.grownBy (W.setCell ⟨g, j, none⟩ v) (some g) := by
  refine ⟨h.os, h.tape, h.output, ?_, fun k hk hr => ?_⟩
  · simpa [World.setCell] using h.size
  · exact (Below.heap_setCell W ⟨g, j, none⟩ v k (fun e => hr (by rw [e]))).trans (h.block k hk hr)
/-- Two neighbours changed about. -/
def swp1 (xs : List Nat) (j : Nat) : List Nat := (xs.set (j + 1) (xs.getD j 0)).set j (xs.getD (j + 1) 0)
/-- The inner loop. -/
def insIn (cf : Nat → Nat → Int) (a : Nat) : Nat → List Nat → List Nat
  | 0, xs => xs
  | j + 1, xs => if a < j + 1 ∧ cf (xs.getD (j + 1) 0) (xs.getD j 0) < 0 then insIn cf a j (swp1 xs j) else xs
/-- The outer loop. -/
def insOut (cf : Nat → Nat → Int) (a : Nat) : Nat → Nat → List Nat → List Nat
  | 0, _, xs => xs
  | n + 1, i, xs => insOut cf a n (i + 1) (insIn cf a i xs)
def insS (cf : Nat → Nat → Int) (a b : Nat) (xs : List Nat) : List Nat := insOut cf a (b - (a + 1)) (a + 1) xs
theorem swp1_length (xs : List Nat) (j : Nat) : (swp1 xs j).length = xs.length := by simp [swp1]
theorem getD_mem {xs : List Nat} {j : Nat} (h : j < xs.length) : xs.getD j 0 ∈ xs := by
  rw [List.getD_eq_getElem?_getD, List.getElem?_eq_getElem h]; exact List.getElem_mem h
theorem swp1_mem {xs : List Nat} {j x : Nat} (hj : j + 1 < xs.length) (h : x ∈ swp1 xs j) : x ∈ xs := by
  unfold swp1 at h
  rcases List.mem_or_eq_of_mem_set h with h | h
  · rcases List.mem_or_eq_of_mem_set h with h | h
    · exact h
    · rw [h]; exact getD_mem (by omega)
  · rw [h]; exact getD_mem hj
set_option maxHeartbeats 8000000 in
set_option maxRecDepth 1000000 in
theorem ins_calls (fk : Nat) (caps : Array Value) (cf : Nat → Nat → Int) (N g cap a b : Nat) (xs : List Nat) (w : World)
    (hh : HoldI w g xs) (hab : a ≤ b) (hb : b ≤ xs.length) (hsz : xs.length < 4611686018427387904) (hx : ∀ x ∈ xs, x < N)
    (hcf : ∀ (x y : Nat) (W : World), Sem.run Try.prog (callFunc fk (#[enN x, enN y] ++ caps)) W = Result.ok (Next.enter fk (#[enN x, enN y] ++ caps)) W)
    (hcmp : ∀ (W : World) (x y : Nat), w.grownBy W (some g) → x < N → y < N → Calls Try.prog fk (#[enN x, enN y] ++ caps) W fun e w' => e = .returned (.int .i64 (cf x y)) ∧ Below W.heap.size W w') :
    Calls Try.prog 114 #[.slice (some ⟨g, 0, none⟩) xs.length cap, .int .i64 a, .int .i64 b, .func (.func fk) #[] caps] w fun e w' => e = .returned (.tuple #[]) ∧ w.grownBy w' (some g) ∧ HoldI w' g (insS cf a b xs) := by
  have HC := Aside0.mk hcmp
  have HH := Aside0.mk hh
  have HX := Aside0.mk hx
  have HG := Aside0.mk (show w.grownBy w (some g) from ⟨rfl, rfl, rfl, Nat.le_refl _, fun _ _ _ => rfl⟩)
  clear hcmp hh hx
  go_enter Try.func114, Try.ntmps114
  go_wp2
  go_loopg [8] (b - a) (fun g1 vi wr => ∃ (i : Nat) (dk : List Nat), vi = .int .i64 i ∧ a < i ∧ i ≤ b + 1 ∧ b + 1 - i ≤ g1 + 1 ∧ dk.length = xs.length ∧ Aside0 (HoldI wr g dk) ∧ Aside0 (∀ x ∈ dk, x < N) ∧ Aside0 (w.grownBy wr (some g)) ∧ Aside0 (insOut cf a (b - i) i dk = insS cf a b xs))
  case atStart => exact ⟨a + 1, xs, by go_num, by omega, by omega, by omega, rfl, HH, HX, HG, ⟨rfl⟩⟩
  case round =>
    clear HH HX HG
    obtain ⟨i, dk, rfl, hai, hib, hg1, hsk, HH, HX, HG, HO⟩ := hrel
    by_cases hlt : i < b
    · have hltz : (i : Int) < (b : Int) := by omega
      go_wp2
      go_loopg [9] i (fun g2 vj wr2 => ∃ (j : Nat) (dj : List Nat), vj = .int .i64 j ∧ a ≤ j ∧ j ≤ i ∧ j ≤ g2 ∧ dj.length = xs.length ∧ Aside0 (HoldI wr2 g dj) ∧ Aside0 (∀ x ∈ dj, x < N) ∧ Aside0 (w.grownBy wr2 (some g)) ∧ Aside0 (insIn cf a j dj = insIn cf a i dk))
      case atStart => exact ⟨i, dk, rfl, by omega, Nat.le_refl _, Nat.le_refl _, hsk, HH, HX, HG, ⟨rfl⟩⟩
      case round =>
        clear HH HX HG
        obtain ⟨j, dj, rfl, haj, hji, hg2, hsj, HH, HX, HG, HI⟩ := hrel
        have HO2 := Aside0.mk (show insOut cf a (b - (i + 1)) (i + 1) (insIn cf a j dj) = insS cf a b xs by rw [HI.out, ← HO.out, show b - i = (b - (i + 1)) + 1 by omega]; rfl)
        by_cases hja : a < j
        · obtain ⟨jp, rfl⟩ : ∃ jp, j = jp + 1 := ⟨j - 1, by omega⟩
          obtain ⟨xj, hxj⟩ : ∃ x, dj.getD (jp + 1) 0 = x := ⟨_, rfl⟩
          obtain ⟨xp, hxp⟩ : ∃ x, dj.getD jp 0 = x := ⟨_, rfl⟩
          have hjl : jp + 1 < dj.length := by omega
          have e1 : dj[jp + 1]? = some xj := by rw [← hxj, List.getD_eq_getElem?_getD, List.getElem?_eq_getElem hjl]; rfl
          have e2 : dj[jp]? = some xp := by rw [← hxp, List.getD_eq_getElem?_getD, List.getElem?_eq_getElem (by omega)]; rfl
          have cj := HH.out.cell e1
          have cp := HH.out.cell e2
          have fj := HH.out.free (jp + 1)
          have fp := HH.out.free jp
          have nj := HX.out xj (List.mem_of_getElem? e1)
          have np := HX.out xp (List.mem_of_getElem? e2)
          have hjaz : (a : Int) < (jp : Int) + 1 := by omega
          have hwp : IntKind.i64.wrap (jp : Int) = (jp : Int) := by rw [IntKind.wrap_i64]; omega
          have jz : (jp : Int) + 1 < (xs.length : Int) := by omega
          have jz1 : (jp : Int) < (xs.length : Int) := by omega
          have p0 : (0 : Int) ≤ (jp : Int) + 1 := by omega
          have e0 : ((jp : Int) + 1).toNat = jp + 1 := by omega
          have E1 := Aside0.mk e1
          have E2 := Aside0.mk e2
          clear e1 e2
          by_cases hlv : cf xj xp < 0
          · go_wp2_with fail
            go_region_held3 (fun w' => w'.cell? ⟨g, jp + 1, none⟩ = some (enN xj) ∧ w'.cell? ⟨g, jp, none⟩ = some (enN xp))
              (first | go_keep | (refine ⟨?_, ?_⟩ <;> refine pw_cell_below hbl ?_ <;> first | assumption | (simp only [*]; done)))
              (first | (refine (HC.out _ xj xp (by first | exact HG.out | exact gr_drew HG.out) nj np).mono ?_; rintro e w' ⟨rfl, hbl⟩; have n0_ := Aside0.mk (gr_below (by first | exact HG.out | exact gr_drew HG.out) hbl); have n1_ := Aside0.mk (HoldI.below (by first | exact HH.out | exact HH.out.drew) hbl); clear HG HH; have HG := n0_; have HH := n1_; clear n0_ n1_))
            clear cj cp fj fp
            go_wp2_with fail
            have cj := HH.out.cell E1.out
            have cp := HH.out.cell E2.out
            have fj := HH.out.free (jp + 1)
            have fp := HH.out.free jp
            obtain ⟨j1, hj1⟩ : ∃ j1, j1 = jp + 1 := ⟨_, rfl⟩
            rw [← hj1] at cj fj e0
            have J1 := Aside0.mk hj1
            clear hj1
            go_region
            all_goals go_wp2
            have hs1 := HoldI.set (HoldI.set HH.out j1 xp) jp xj
            have hg1 := gr_set (j := jp) (gr_set (j := j1) HG.out (enN xp)) (enN xj)
            have hsw : swp1 dj jp = (dj.set j1 xp).set jp xj := by unfold swp1; rw [hxj, hxp, J1.out]
            rw [← hsw] at hs1
            go_roundg jp
            case measure => omega
            case rel =>
              refine ⟨jp, swp1 dj jp, by first | rfl | go_num | (congr 1; omega), by omega, by omega, Nat.le_refl _, by rw [swp1_length]; exact hsj, ⟨by first | exact hs1 | exact hs1.drew⟩, ⟨fun x hx => HX.out x (swp1_mem hjl hx)⟩, ⟨by first | exact hg1 | exact gr_drew hg1⟩, ⟨?_⟩⟩
              rw [← HI.out, insIn, if_pos ⟨by omega, by rw [hxj, hxp]; exact hlv⟩]
          · have hO := HO2.out
            rw [insIn, if_neg (fun h => hlv (by rw [← hxj, ← hxp]; exact h.2))] at hO
            go_wp2_with fail
            go_region_held3 (fun w' => w'.cell? ⟨g, jp + 1, none⟩ = some (enN xj) ∧ w'.cell? ⟨g, jp, none⟩ = some (enN xp))
              (first | go_keep | (refine ⟨?_, ?_⟩ <;> refine pw_cell_below hbl ?_ <;> first | assumption | (simp only [*]; done)))
              (first | (refine (HC.out _ xj xp (by first | exact HG.out | exact gr_drew HG.out) nj np).mono ?_; rintro e w' ⟨rfl, hbl⟩; have n0_ := Aside0.mk (gr_below (by first | exact HG.out | exact gr_drew HG.out) hbl); have n1_ := Aside0.mk (HoldI.below (by first | exact HH.out | exact HH.out.drew) hbl); clear HG HH; have HG := n0_; have HH := n1_; clear n0_ n1_))
            go_wp2
            go_roundg (b - (i + 1))
            case measure => omega
            case rel => exact ⟨i + 1, dj, by go_num, by omega, by omega, by omega, hsj, HH, HX, HG, ⟨hO⟩⟩
        · have hjaz : decide ((j : Int) > (a : Int)) = false := decide_eq_false (by omega)
          have hjaz' : ¬ (a : Int) < (j : Int) := by omega
          have hO := HO2.out
          have hin : insIn cf a j dj = dj := by
            cases j with
            | zero => rfl
            | succ j => rw [insIn, if_neg (fun h => hja h.1)]
          rw [hin] at hO
          go_wp2_with fail
          go_region
          all_goals go_wp2
          go_roundg (b - (i + 1))
          case measure => omega
          case rel => exact ⟨i + 1, dj, by go_num, by omega, by omega, by omega, hsj, ⟨by first | exact HH.out | exact HH.out.drew⟩, HX, ⟨by first | exact HG.out | exact gr_drew HG.out⟩, ⟨hO⟩⟩
    · have hltz : ¬ (i : Int) < (b : Int) := by omega
      go_wp2
      go_end0
      exact ⟨rfl, HG.out, by rw [← HO.out, show b - i = 0 by omega]; exact HH.out⟩
end Go.Proofs.Ythghflgmeepnlaa.Pa
end
section
namespace Go.Proofs.Ythghflgmeepnlaa.Pa
open Go.RowKit Go.Proofs.YthghflgmeepnlaaW.PrintWords Go.Proofs.YthghflgmeepnlaaW.PrintLast Go.Proofs.YthghflgmeepnlaaW.PrintMore
attribute [local go_sem] max2_int max_two
set_option linter.unusedVariables false
set_option linter.unusedSimpArgs false
mutual
def rows_order.l0 : Nat → List (S33) → List (S33) → List Bool → Int → Int → Option (Int)
  | 0, _, _, _, _, _ => none
  | k + 1, x0, x1, x2, x13, x14 => if x14 < x13 then (if x14 ≥ (x0.length : Int) then (rows_order.j1 k x0 x1 x2 x14 (-1) x13 x14) else (if x14 ≥ (x1.length : Int) then (rows_order.j1 k x0 x1 x2 x14 1 x13 x14) else (if 0 ≤ x14 then (if x14 < (x0.length : Int) then (if x14 < (x1.length : Int) then ((value_Order.f k ((rd_T33 x0 x14).f0) ((rd_T33 x0 x14).f1) ((rd_T33 x0 x14).f2) ((rd_T33 x1 x14).f0) ((rd_T33 x1 x14).f1) ((rd_T33 x1 x14).f2)).bind fun t755 => (rows_order.j1 k x0 x1 x2 x14 t755 x13 x14)) else (none)) else (none)) else (none)))) else (some 0)
def rows_order.j1 : Nat → List (S33) → List (S33) → List Bool → Int → Int → Int → Int → Option (Int)
  | 0, _, _, _, _, _, _, _ => none
  | k + 1, x0, x1, x2, x7, x8, x13, x14 => if x8 = 0 then (rows_order.l0 k x0 x1 x2 x13 (wrap64 (x14 + 1))) else (if x7 < (x2.length : Int) then (if 0 ≤ x7 then (if rdOf false x2 x7 = true then (some (wrap64 (-x8))) else (some x8)) else (none)) else (some x8))
end
def rows_order.f (k : Nat) (l0 : List (S33)) (l1 : List (S33)) (l2 : List Bool) : Option (Int) := rows_order.l0 k l0 l1 l2 (mx (l0.length : Int) (l1.length : Int)) 0
def rows_order.T5 : Bool × List (List Nat × List Nat) := (true, [([], []), ([], []), ([0, 1], [0, 1]), ([2], [2]), ([], []), ([], []), ([4, 5], [4, 5]), ([6], [6]), ([3, 7], [3, 7]), ([8, 8, 0, 1, 2, 3, 4, 5, 6, 7, 8], [8])])
def rows_order.B5 : List Nat := [0, 0, 3, 7, 0, 0, 48, 112, 255, 511]
theorem rows_order.tab5 : rtab .any (opsOf Try.f96 5) = rows_order.T5 := by kernel_rfl
theorem rows_order.bits5 : waitsOk rows_order.T5.2 rows_order.B5 = true := by kernel_rfl
set_option maxHeartbeats 8000000 in
set_option maxRecDepth 100000 in
theorem rows_order.calls (k : Nat) (A0 : Option Addr) (c0 : Nat) (l0 : List (S33)) (A1 : Option Addr) (c1 : Nat) (l1 : List (S33)) (A2 : Option Addr) (c2 : Nat) (l2 : List Bool) (r : Int) (w : World) (hr0 : Kd.C k33 w A0 l0.length l0) (hc0 : l0.length ≤ c0) (hr1 : Kd.C k33 w A1 l1.length l1) (hc1 : l1.length ≤ c1) (hr2 : Kd.C Kd.bool w A2 l2.length l2) (hc2 : l2.length ≤ c2) (h : rows_order.f k l0 l1 l2 = some r) :
    Calls Try.prog 96 #[.slice A0 l0.length c0, .slice A1 l1.length c1, .slice A2 l2.length c2] w fun e w' => e = .returned (.int .i64 r) ∧ Below w.heap.size w w' := by
  have hu33 := Try.underlying33
  have HR0 := Aside0.mk hr0
  have HC0 := Aside0.mk hc0
  clear hr0 hc0
  have HR1 := Aside0.mk hr1
  have HC1 := Aside0.mk hc1
  clear hr1 hc1
  have HR2 := Aside0.mk hr2
  have HC2 := Aside0.mk hc2
  clear hr2 hc2
  have HB := Aside0.mk (Below.refl w.heap.size w)
  have H : (rows_order.l0 k l0 l1 l2 (mx (l0.length : Int) (l1.length : Int)) 0) = some r := h
  clear h
  obtain ⟨ji4, hji4⟩ : ∃ j_ : Int, (mx (l0.length : Int) (l1.length : Int)) = j_ := ⟨_, rfl⟩
  replace H : (rows_order.l0 k l0 l1 l2 ji4 0) = some r := by first | (rw [hji4] at H; exact H) | (simp only [hji4] at H ⊢; exact H)
  (try (have hji4l : 0 ≤ ji4 := by (rw [← hji4]; unfold mx; (repeat' split) <;> omega)))
  (try (have hji4m : 0 ≤ ji4 := by omega))
  have hji4_ : (if (l0.length : Int) < (l1.length : Int) then (l1.length : Int) else (l0.length : Int)) = ji4 := hji4
  have hji4n : (if l0.length < l1.length then (l1.length : Int) else (l0.length : Int)) = ji4 := by
    rw [← hji4]; unfold mx; (repeat' split) <;> omega
  have H' := Aside0.mk H
  clear H
  go_enter Try.func96, Try.ntmps96
  go_wp2
  go_loopg [14] k (fun kq v14 w' => ∃ (x14_1 : Int), v14 = .int .i64 x14_1 ∧ Aside0 (rows_order.l0 kq l0 l1 l2 ji4 x14_1 = some r) ∧ Aside0 (kq ≤ k) ∧ Aside0 (Below w.heap.size w w'))
  case atStart => exact ⟨(0), (by first | rfl | (simp; done) | (simp [*]; done)), H', ⟨Nat.le_refl _⟩, ⟨by repeat (first | (with_reducible first | exact HB.out | apply below_alloc | apply pw_below_drewN | apply below_drew1) | exact HB.out)⟩⟩
  case round =>
    clear H'
    try clear c1
    try clear c2
    try clear p2
    obtain ⟨x14_1, rfl, HA, HK1, HB⟩ := hrel
    cases gk with
    | zero => exact absurd HA.out (by simp [rows_order.l0])
    | succ k1 =>
      have H := HA.out
      clear HA
      simp only [rows_order.l0] at H
      by_cases c5 : x14_1 < ji4
      · rw [if_pos c5] at H
        have c5b0 : decide (x14_1 < ji4) = true := decide_eq_true c5
        clear c5
        have HC6 := Aside0.mk H
        clear H
        go_upto_block 2 with (fail)
        go_cut [8] (fun v8 wc => ∃ (kq : Nat) (x8_5 : Int), v8 = .int .i64 x8_5 ∧ Aside0 (rows_order.j1 kq l0 l1 l2 x14_1 x8_5 ji4 x14_1 = some r) ∧ Aside0 (kq ≤ k1) ∧ Aside0 (Below w.heap.size w wc))
        case first =>
          have H := HC6.out
          clear HC6
          by_cases c7 : x14_1 ≥ (l0.length : Int)
          · rw [if_pos c7] at H
            have c7b0 : decide ((l0.length : Int) ≤ x14_1) = true := decide_eq_true c7
            clear c7
            (first | rw [c7b0] | (simp only [i64_w, i32_w]; rw [c7b0]) | skip)
            have H' := Aside0.mk H
            clear H
            go_wp2
            go_meet
            case rel => exact ⟨_, ((-1)), (by first | rfl | (simp; done) | (simp [*]; done)), H', ⟨by have := HK1.out; first | omega | exact Nat.le_refl _⟩, ⟨by repeat (first | (with_reducible first | exact HB.out | apply below_alloc | apply pw_below_drewN | apply below_drew1) | exact HB.out)⟩⟩
          · rw [if_neg c7] at H
            have c7b0 : decide ((l0.length : Int) ≤ x14_1) = false := decide_eq_false c7
            clear c7
            (first | rw [c7b0] | (simp only [i64_w, i32_w]; rw [c7b0]) | skip)
            by_cases c8 : x14_1 ≥ (l1.length : Int)
            · rw [if_pos c8] at H
              have c8b0 : decide ((l1.length : Int) ≤ x14_1) = true := decide_eq_true c8
              clear c8
              have H' := Aside0.mk H
              clear H
              go_wp2
              go_meet
              case rel => exact ⟨_, (1), (by first | rfl | (simp; done) | (simp [*]; done)), H', ⟨by have := HK1.out; first | omega | exact Nat.le_refl _⟩, ⟨by repeat (first | (with_reducible first | exact HB.out | apply below_alloc | apply pw_below_drewN | apply below_drew1) | exact HB.out)⟩⟩
            · rw [if_neg c8] at H
              have c8b0 : decide ((l1.length : Int) ≤ x14_1) = false := decide_eq_false c8
              clear c8
              by_cases c9 : 0 ≤ x14_1
              · rw [if_pos c9] at H
                have c9b0 : decide (0 ≤ x14_1) = true := decide_eq_true c9
                clear c9
                by_cases c10 : x14_1 < (l0.length : Int)
                · rw [if_pos c10] at H
                  have c10b0 : decide (x14_1 < (l0.length : Int)) = true := decide_eq_true c10
                  clear c10
                  by_cases c11 : x14_1 < (l1.length : Int)
                  · rw [if_pos c11] at H
                    have c11b0 : decide (x14_1 < (l1.length : Int)) = true := decide_eq_true c11
                    clear c11
                    replace H := Option.bind_eq_some_iff.mp H
                    obtain ⟨t755, A120, H⟩ := H
                    replace H : (rows_order.j1 k1 l0 l1 l2 x14_1 t755 ji4 x14_1) = some r := H
                    have A12 := Aside0.mk A120
                    clear A120
                    have H' := Aside0.mk H
                    clear H
                    try go_wp2
                    have n0_ := Aside0.mk (below_drew1 HB.out)
                    clear HB
                    have HB := n0_
                    clear n0_
                    have p753 : 0 ≤ (x14_1 : Int) := of_decide_eq_true (by first | (with_reducible assumption) | assumption)
                    have q753 : x14_1 < (l0.length : Int) := of_decide_eq_true (by first | (with_reducible assumption) | assumption)
                    obtain ⟨ad753, e753, hx753_0, hx753_1, hx753_2⟩ := at_T33 HR0.out x14_1 p753 q753
                    have hw753_2 := hx753_2
                    have hw753_1 := hx753_1
                    have hw753_0 := hx753_0
                    cases e753
                    replace hx753_0 := (HB.out.cell (World.block_lt_of_cell? w _ hx753_0)).trans hx753_0
                    replace hx753_1 := (HB.out.cell (World.block_lt_of_cell? w _ hx753_1)).trans hx753_1
                    replace hx753_2 := (HB.out.cell (World.block_lt_of_cell? w _ hx753_2)).trans hx753_2
                    replace p753 := eq_true p753
                    replace q753 := eq_true q753
                    have p754 : 0 ≤ (x14_1 : Int) := of_decide_eq_true (by first | (with_reducible assumption) | assumption)
                    have q754 : x14_1 < (l1.length : Int) := of_decide_eq_true (by first | (with_reducible assumption) | assumption)
                    obtain ⟨ad754, e754, hx754_0, hx754_1, hx754_2⟩ := at_T33 HR1.out x14_1 p754 q754
                    have hw754_2 := hx754_2
                    have hw754_1 := hx754_1
                    have hw754_0 := hx754_0
                    cases e754
                    replace hx754_0 := (HB.out.cell (World.block_lt_of_cell? w _ hx754_0)).trans hx754_0
                    replace hx754_1 := (HB.out.cell (World.block_lt_of_cell? w _ hx754_1)).trans hx754_1
                    replace hx754_2 := (HB.out.cell (World.block_lt_of_cell? w _ hx754_2)).trans hx754_2
                    replace p754 := eq_true p754
                    replace q754 := eq_true q754
                    refine start_ (n := 10) (S := fun w' => w'.cell? (ad753.add ((x14_1).toNat * 3)) = some (.int .i64 ((rd_T33 l0 x14_1).f0)) ∧ w'.cell? ⟨(ad753.add ((x14_1).toNat * 3)).block, (ad753.add ((x14_1).toNat * 3)).off + 1, none⟩ = some (.int .i64 ((rd_T33 l0 x14_1).f1)) ∧ w'.cell? ⟨(ad753.add ((x14_1).toNat * 3)).block, (ad753.add ((x14_1).toNat * 3)).off + 2, none⟩ = some (.string ((rd_T33 l0 x14_1).f2)) ∧ w'.cell? (ad754.add ((x14_1).toNat * 3)) = some (.int .i64 ((rd_T33 l1 x14_1).f0)) ∧ w'.cell? ⟨(ad754.add ((x14_1).toNat * 3)).block, (ad754.add ((x14_1).toNat * 3)).off + 1, none⟩ = some (.int .i64 ((rd_T33 l1 x14_1).f1)) ∧ w'.cell? ⟨(ad754.add ((x14_1).toNat * 3)).block, (ad754.add ((x14_1).toNat * 3)).off + 2, none⟩ = some (.string ((rd_T33 l1 x14_1).f2))) (ds := []) #[false, false, false, false, false, false, false, false, false, false] (by kernel_rfl) rfl rfl ⟨((HB.out.cell (World.block_lt_of_cell? w _ hw753_0)).trans hw753_0), ((HB.out.cell (World.block_lt_of_cell? w _ hw753_1)).trans hw753_1), ((HB.out.cell (World.block_lt_of_cell? w _ hw753_2)).trans hw753_2), ((HB.out.cell (World.block_lt_of_cell? w _ hw754_0)).trans hw754_0), ((HB.out.cell (World.block_lt_of_cell? w _ hw754_1)).trans hw754_1), ((HB.out.cell (World.block_lt_of_cell? w _ hw754_2)).trans hw754_2)⟩ (fun hHeld => ?_); refine with_tabW rows_order.tab5 rows_order.bits5 (fun HT_ HW_ => ?_)
                    generalize wr.drew = w13 at HB hx753_0 hx753_1 hx753_2 hx754_0 hx754_1 hx754_2 hHeld ⊢
                    refine pure_ (i := 0) (N := some 17) (v := ?_) (a' := ?_) #[true, false, false, false, false, false, false, false, false, false] rfl rfl (any_of HT_.out (by kernel_rfl)) (fun _ _ _ h => h) (Or.inl ⟨by rfl, ?_⟩) ?_ ?_
                    rotate_left
                    · intro w'
                      go_simp
                      with_reducible rfl
                    rotate_left
                    · simp only [Act.put, List.setIfInBounds_toArray, List.set_cons_zero, List.set_cons_succ, i64_w, i32_w]
                      rfl
                    refine pure_ (i := 1) (N := some 18) (v := ?_) (a' := ?_) #[true, true, false, false, false, false, false, false, false, false] rfl rfl (any_of HT_.out (by kernel_rfl)) (fun _ _ _ h => h) (Or.inl ⟨by rfl, ?_⟩) ?_ ?_
                    rotate_left
                    · intro w'
                      go_simp
                      with_reducible rfl
                    rotate_left
                    · simp only [Act.put, List.setIfInBounds_toArray, List.set_cons_zero, List.set_cons_succ, i64_w, i32_w]
                      rfl
                    refine pure_ (i := 2) (N := some 19) (v := ?_) (a' := ?_) #[true, true, true, false, false, false, false, false, false, false] rfl rfl (any_of HT_.out (by kernel_rfl)) (fun _ _ _ h => h) (Or.inl ⟨by rfl, ?_⟩) ?_ ?_
                    rotate_left
                    · intro w'
                      go_simp
                      with_reducible rfl
                    rotate_left
                    · simp only [Act.put, List.setIfInBounds_toArray, List.set_cons_zero, List.set_cons_succ, i64_w, i32_w]
                      rfl
                    refine pure_ (i := 4) (N := some 21) (v := ?_) (a' := ?_) #[true, true, true, false, true, false, false, false, false, false] rfl rfl (any_of HT_.out (by kernel_rfl)) (fun _ _ _ h => h) (Or.inl ⟨by rfl, ?_⟩) ?_ ?_
                    rotate_left
                    · intro w'
                      go_simp
                      with_reducible rfl
                    rotate_left
                    · simp only [Act.put, List.setIfInBounds_toArray, List.set_cons_zero, List.set_cons_succ, i64_w, i32_w]
                      rfl
                    refine pure_ (i := 5) (N := some 22) (v := ?_) (a' := ?_) #[true, true, true, false, true, true, false, false, false, false] rfl rfl (any_of HT_.out (by kernel_rfl)) (fun _ _ _ h => h) (Or.inl ⟨by rfl, ?_⟩) ?_ ?_
                    rotate_left
                    · intro w'
                      go_simp
                      with_reducible rfl
                    rotate_left
                    · simp only [Act.put, List.setIfInBounds_toArray, List.set_cons_zero, List.set_cons_succ, i64_w, i32_w]
                      rfl
                    refine pure_ (i := 6) (N := some 23) (v := ?_) (a' := ?_) #[true, true, true, false, true, true, true, false, false, false] rfl rfl (any_of HT_.out (by kernel_rfl)) (fun _ _ _ h => h) (Or.inl ⟨by rfl, ?_⟩) ?_ ?_
                    rotate_left
                    · intro w'
                      go_simp
                      with_reducible rfl
                    rotate_left
                    · simp only [Act.put, List.setIfInBounds_toArray, List.set_cons_zero, List.set_cons_succ, i64_w, i32_w]
                      rfl
                    refine take_ (i := 3) (N := some 20) (v := ?_) (a' := ?_) #[true, true, true, true, true, true, true, false, false, false] rfl rfl (take_ofW HT_.out HW_.out (by kernel_rfl)) (fun _ _ _ h => h) (Or.inl ⟨by rfl, ?_⟩) hHeld ?_ ?_
                    rotate_left
                    · rintro w' ⟨s0, s1, s2, s3, s4, s5⟩
                      go_simp
                      with_reducible rfl
                    rotate_left
                    · simp only [Act.put, List.setIfInBounds_toArray, List.set_cons_zero, List.set_cons_succ, i64_w, i32_w]
                      rfl
                    refine take_ (i := 7) (N := some 24) (v := ?_) (a' := ?_) #[true, true, true, true, true, true, true, true, false, false] rfl rfl (take_ofW HT_.out HW_.out (by kernel_rfl)) (fun _ _ _ h => h) (Or.inl ⟨by rfl, ?_⟩) hHeld ?_ ?_
                    rotate_left
                    · rintro w' ⟨s0, s1, s2, s3, s4, s5⟩
                      go_simp
                      with_reducible rfl
                    rotate_left
                    · simp only [Act.put, List.setIfInBounds_toArray, List.set_cons_zero, List.set_cons_succ, i64_w, i32_w]
                      rfl
                    refine one_ (i := 8) (N := some 25) #[true, true, true, true, true, true, true, true, true, false] rfl rfl (one_of HT_.out (by kernel_rfl)) (by decide) (fun K hK => ?_)
                    refine goes_ Try.func50 (by kernel_rfl) rfl #[.agg #[.int .i64 ((rd_T33 l0 x14_1).f0), .int .i64 ((rd_T33 l0 x14_1).f1), .string ((rd_T33 l0 x14_1).f2)], .agg #[.int .i64 ((rd_T33 l1 x14_1).f0), .int .i64 ((rd_T33 l1 x14_1).f1), .string ((rd_T33 l1 x14_1).f2)]] (by rfl) rfl rfl (by (try simp only [List.map_toArray, List.map_cons, List.map_nil]); first | done | rfl | (simp only [List.length_drop, List.length_take]; rfl)) ?_
                    with_reducible refine (value_Order.calls k1 ((rd_T33 l0 x14_1).f0) ((rd_T33 l0 x14_1).f1) ((rd_T33 l0 x14_1).f2) ((rd_T33 l1 x14_1).f0) ((rd_T33 l1 x14_1).f1) ((rd_T33 l1 x14_1).f2) t755 _ A12.out).mono ?_
                    rintro e w14 ⟨rfl, hb⟩
                    refine ⟨_, rfl, ?_⟩
                    have n0_ := Aside0.mk (below_step (by repeat (first | (with_reducible first | exact HB.out | apply below_alloc | apply pw_below_drewN | apply below_drew1) | exact HB.out)) hb)
                    clear HB
                    have HB := n0_
                    clear n0_
                    (try clear hb)
                    (try clear hb2)
                    (try clear hk)
                    (try clear hi)
                    refine hK.out _ _ ⟨((HB.out.cell (World.block_lt_of_cell? w _ hw753_0)).trans hw753_0), ((HB.out.cell (World.block_lt_of_cell? w _ hw753_1)).trans hw753_1), ((HB.out.cell (World.block_lt_of_cell? w _ hw753_2)).trans hw753_2), ((HB.out.cell (World.block_lt_of_cell? w _ hw754_0)).trans hw754_0), ((HB.out.cell (World.block_lt_of_cell? w _ hw754_1)).trans hw754_1), ((HB.out.cell (World.block_lt_of_cell? w _ hw754_2)).trans hw754_2)⟩ (fun hHeld => ?_)
                    clear hK K
                    refine norm_ (a' := ?_) ?_ ?_
                    rotate_left
                    · show Act.put _ (some 25) _ = _
                      simp only [Act.put, List.setIfInBounds_toArray, List.set_cons_zero, List.set_cons_succ, i64_w, i32_w]
                      rfl
                    refine pure_ (i := 9) (N := some 8) (v := ?_) (a' := ?_) #[true, true, true, true, true, true, true, true, true, true] rfl rfl (any_of HT_.out (by kernel_rfl)) (fun _ _ _ h => h) (Or.inl ⟨by rfl, ?_⟩) ?_ ?_
                    rotate_left
                    · intro w'
                      go_simp
                      with_reducible rfl
                    rotate_left
                    · simp only [Act.put, List.setIfInBounds_toArray, List.set_cons_zero, List.set_cons_succ, i64_w, i32_w]
                      rfl
                    refine done_ (done_of HT_.out (by kernel_rfl)) ?_
                    try go_wp2
                    go_meet
                    case rel => exact ⟨_, (t755), (by first | rfl | (simp; done) | (simp [*]; done)), H', ⟨by have := HK1.out; first | omega | exact Nat.le_refl _⟩, ⟨by repeat (first | (with_reducible first | exact HB.out | apply below_alloc | apply pw_below_drewN | apply below_drew1) | exact HB.out)⟩⟩
                  · rw [if_neg c11] at H
                    exact absurd H (by simp)
                · rw [if_neg c10] at H
                  exact absurd H (by simp)
              · rw [if_neg c9] at H
                exact absurd H (by simp)
        case rest =>
          clear HC6
          try clear c1
          try clear c2
          try clear p2
          try clear c5
          try clear c5b0
          try clear c7
          try clear c7b0
          try clear p7
          try clear q7
          try clear hx7
          try clear c8
          try clear c8b0
          try clear c9
          try clear c9b0
          try clear c10
          try clear c10b0
          try clear c11
          try clear c11b0
          try clear hx753_0
          try clear hx753_1
          try clear hx753_2
          try clear hx754_0
          try clear hx754_1
          try clear hx754_2
          try clear p2
          try clear p753
          try clear p754
          try clear q753
          try clear q754
          obtain ⟨kq, x8_5, rfl, HA, HJ5, HB⟩ := hcut
          cases kq with
          | zero => exact absurd HA.out (by simp [rows_order.j1])
          | succ kj5 =>
            have H := HA.out
            clear HA
            simp only [rows_order.j1] at H
            by_cases c15 : x8_5 = 0
            · rw [if_pos c15] at H
              have c15b0 : (x8_5 == 0) = true := beq_iff_eq.mpr c15
              have c15b1 : (x8_5 != 0) = false := bne_eq_false_iff_eq.mpr c15
              clear c15
              have H' := Aside0.mk H
              clear H
              go_wp2
              go_roundg kj5
              case measure => have := HK1.out; have := HJ5.out; omega
              case rel => exact ⟨(wrap64 (x14_1 + 1)), (by first | rfl | (simp; done) | (simp [*]; done)), H', ⟨by have := HK1.out; have := HJ5.out; omega⟩, ⟨by repeat (first | (with_reducible first | exact HB.out | apply below_alloc | apply pw_below_drewN | apply below_drew1) | exact HB.out)⟩⟩
            · rw [if_neg c15] at H
              have c15b0 : (x8_5 == 0) = false := beq_eq_false_iff_ne.mpr c15
              have c15b1 : (x8_5 != 0) = true := bne_iff_ne.mpr c15
              by_cases c16 : x14_1 < (l2.length : Int)
              · rw [if_pos c16] at H
                have c16b0 : decide (x14_1 < (l2.length : Int)) = true := decide_eq_true c16
                clear c16
                by_cases c17 : 0 ≤ x14_1
                · rw [if_pos c17] at H
                  have c17b0 : decide (0 ≤ x14_1) = true := decide_eq_true c17
                  clear c17
                  obtain ⟨bq18, hbq18⟩ : ∃ b_ : Bool, b_ = (rdOf false l2 x14_1) := ⟨_, rfl⟩
                  replace H : (if bq18 = true then (some (wrap64 (-x8_5))) else (some x8_5)) = some r := by rw [← hbq18] at H; exact H
                  have Nbq18 := Aside0.mk hbq18
                  clear hbq18
                  by_cases c19 : bq18 = true
                  · subst c19
                    have H1 : (some (wrap64 (-x8_5))) = some r := by rw [if_pos rfl] at H; exact H
                    clear H
                    have H := H1
                    clear H1
                    obtain rfl := Option.some.inj H
                    have p756 : 0 ≤ (x14_1 : Int) := of_decide_eq_true (by first | (with_reducible assumption) | assumption)
                    have q756 : x14_1 < (l2.length : Int) := of_decide_eq_true (by first | (with_reducible assumption) | assumption)
                    obtain ⟨ad756, e756, hx756_0⟩ := Kd.at_bool HR2.out x14_1 p756 q756
                    (try rw [← Nbq18.out] at hx756_0)
                    cases e756
                    replace hx756_0 := (HB.out.cell (World.block_lt_of_cell? w _ hx756_0)).trans hx756_0
                    replace p756 := eq_true p756
                    replace q756 := eq_true q756
                    go_wp2
                    go_ret
                    exact ⟨by first | rfl | (simp [errW_none, errW_some] <;> rfl) | (simp only [← hji4]; first | rfl | (simp [errW_none, errW_some] <;> rfl)) | (simp [*, errW_none, errW_some] <;> rfl), by repeat (first | (with_reducible first | exact HB.out | apply below_alloc | apply pw_below_drewN | apply below_drew1) | exact HB.out)⟩
                  · replace c19 := Bool.eq_false_iff.mpr c19
                    subst c19
                    have H1 : (some x8_5) = some r := by rw [if_neg (show ¬ (false = true) by decide)] at H; exact H
                    clear H
                    have H := H1
                    clear H1
                    obtain rfl := Option.some.inj H
                    have p756 : 0 ≤ (x14_1 : Int) := of_decide_eq_true (by first | (with_reducible assumption) | assumption)
                    have q756 : x14_1 < (l2.length : Int) := of_decide_eq_true (by first | (with_reducible assumption) | assumption)
                    obtain ⟨ad756, e756, hx756_0⟩ := Kd.at_bool HR2.out x14_1 p756 q756
                    (try rw [← Nbq18.out] at hx756_0)
                    cases e756
                    replace hx756_0 := (HB.out.cell (World.block_lt_of_cell? w _ hx756_0)).trans hx756_0
                    replace p756 := eq_true p756
                    replace q756 := eq_true q756
                    go_wp2
                    go_ret
                    exact ⟨by first | rfl | (simp [errW_none, errW_some] <;> rfl) | (simp only [← hji4]; first | rfl | (simp [errW_none, errW_some] <;> rfl)) | (simp [*, errW_none, errW_some] <;> rfl), by repeat (first | (with_reducible first | exact HB.out | apply below_alloc | apply pw_below_drewN | apply below_drew1) | exact HB.out)⟩
                · rw [if_neg c17] at H
                  exact absurd H (by simp)
              · rw [if_neg c16] at H
                have c16b0 : decide (x14_1 < (l2.length : Int)) = false := decide_eq_false c16
                clear c16
                obtain rfl := Option.some.inj H
                go_wp2
                go_ret
                exact ⟨by first | rfl | (simp [errW_none, errW_some] <;> rfl) | (simp only [← hji4]; first | rfl | (simp [errW_none, errW_some] <;> rfl)) | (simp [*, errW_none, errW_some] <;> rfl), by repeat (first | (with_reducible first | exact HB.out | apply below_alloc | apply pw_below_drewN | apply below_drew1) | exact HB.out)⟩
      · rw [if_neg c5] at H
        have c5b0 : decide (x14_1 < ji4) = false := decide_eq_false c5
        clear c5
        obtain rfl := Option.some.inj H
        go_wp2
        go_ret
        exact ⟨by first | rfl | (simp [errW_none, errW_some] <;> rfl) | (simp only [← hji4]; first | rfl | (simp [errW_none, errW_some] <;> rfl)) | (simp [*, errW_none, errW_some] <;> rfl), by repeat (first | (with_reducible first | exact HB.out | apply below_alloc | apply pw_below_drewN | apply below_drew1) | exact HB.out)⟩
end Go.Proofs.Ythghflgmeepnlaa.Pa
end
section
namespace Go.Proofs.Ythghflgmeepnlaa.Pa
open Go.RowKit Go.Proofs.YthghflgmeepnlaaW.PrintWords Go.Proofs.YthghflgmeepnlaaW.PrintLast Go.Proofs.YthghflgmeepnlaaW.PrintMore
set_option linter.unusedVariables false
set_option linter.unusedSimpArgs false
/-- A place's order, turned if its mark says so. -/
def sgD (d : List Bool) (n : Int) : Int := if d.headD false = true then -n else n
/-- How two keys stand, each place as its mark says. -/
def ordD : List S33 → List S33 → List Bool → Int
  | [], [], _ => 0
  | [], _ :: _, d => sgD d (-1)
  | _ :: _, [], d => sgD d 1
  | x :: xs, y :: ys, d => if ordS x y = 0 then ordD xs ys d.tail else sgD d (ordS x y)
theorem order_tail (x0 x1 : List S33) (x2 : List Bool) (i : Nat) (n : Int) (mxl : Int) (hn : n = 0 ∨ n = 1 ∨ n = -1) (hn0 : n ≠ 0) (hl : x2.length ≤ maxLen) (k : Nat) (j : Int) :
    rows_order.j1 (k + 1) x0 x1 x2 (i : Int) n mxl j = some (sgD (x2.drop i) n) := by
  unfold rows_order.j1 sgD
  rw [if_neg hn0]
  by_cases h : (i : Int) < (x2.length : Int)
  · rw [if_pos h, if_pos (by omega)]
    have hi : i < x2.length := by omega
    have e : rdOf false x2 (i : Int) = (x2.drop i).headD false := by
      unfold rdOf
      rw [List.drop_eq_getElem_cons hi]
      simp [List.getD_eq_getElem?_getD, List.getElem?_eq_getElem hi]
    rw [e]
    have hw : wrap64 (-n) = -n := by unfold wrap64; omega
    rw [hw]
    split <;> rfl
  · rw [if_neg h, List.drop_eq_nil_of_le (by omega)]
    rfl
theorem order_l0 (x0 x1 : List S33) (x2 : List Bool) (h0 : x0.length < 1000000000) (h1 : x1.length < 1000000000) (hl : x2.length ≤ maxLen) (m : Int) (hm : m = mx (x0.length : Int) (x1.length : Int)) :
    ∀ (d i k : Nat), (i : Int) + d = m → rows_order.l0 (2 * d + 8 + k) x0 x1 x2 m (i : Int) = some (ordD (x0.drop i) (x1.drop i) (x2.drop i)) := by
  have hmx : (x0.length : Int) ≤ m ∧ (x1.length : Int) ≤ m ∧ (m = x0.length ∨ m = x1.length) := by rw [hm]; unfold mx; split <;> omega
  intro d
  induction d with
  | zero =>
    intro i k hi
    rw [show 2 * 0 + 8 + k = (k + 7) + 1 by omega]
    unfold rows_order.l0
    rw [if_neg (by omega), List.drop_eq_nil_of_le (by omega), List.drop_eq_nil_of_le (by omega)]
    rfl
  | succ d ih =>
    intro i k hi
    rw [show 2 * (d + 1) + 8 + k = ((2 * d + 8 + k) + 1) + 1 by omega]
    unfold rows_order.l0
    rw [if_pos (by omega)]
    by_cases c0 : (i : Int) ≥ (x0.length : Int)
    · rw [if_pos c0, order_tail x0 x1 x2 i (-1) m (by omega) (by omega) hl]
      have : i < x1.length := by omega
      rw [show x0.drop i = [] from List.drop_eq_nil_of_le (by omega), List.drop_eq_getElem_cons this]
      rfl
    · rw [if_neg c0]
      have hi0 : i < x0.length := by omega
      by_cases c1 : (i : Int) ≥ (x1.length : Int)
      · rw [if_pos c1, order_tail x0 x1 x2 i 1 m (by omega) (by omega) hl]
        rw [show x1.drop i = [] from List.drop_eq_nil_of_le (by omega), List.drop_eq_getElem_cons hi0]
        rfl
      · rw [if_neg c1, if_pos (by omega), if_pos (by omega), if_pos (by omega)]
        have hi1 : i < x1.length := by omega
        rw [show 2 * d + 8 + k + 1 = (2 * d + 8 + k - 3) + 4 by omega, order_is, Option.bind_some]
        rw [List.drop_eq_getElem_cons hi0, List.drop_eq_getElem_cons hi1]
        have e0 : rd_T33 x0 (i : Int) = x0[i] := by unfold rd_T33; simp [List.getD_eq_getElem?_getD, List.getElem?_eq_getElem hi0]
        have e1 : rd_T33 x1 (i : Int) = x1[i] := by unfold rd_T33; simp [List.getD_eq_getElem?_getD, List.getElem?_eq_getElem hi1]
        rw [e0, e1]
        show rows_order.j1 _ x0 x1 x2 (i : Int) (ordS x0[i] x1[i]) m (i : Int) = _
        unfold ordD
        have hsg := lin_val.sg x0[i] x1[i]
        by_cases c2 : ordS x0[i] x1[i] = 0
        · rw [if_pos c2, c2]
          rw [show 2 * d + 8 + k - 3 + 4 = (2 * d + 8 + k) + 1 by omega]
          unfold rows_order.j1
          rw [if_pos rfl, show wrap64 ((i : Int) + 1) = ((i + 1 : Nat) : Int) by unfold wrap64; omega]
          rw [ih (i + 1) k (by omega), List.tail_drop]
        · rw [if_neg c2, show 2 * d + 8 + k - 3 + 4 = (2 * d + 8 + k) + 1 by omega]
          exact order_tail x0 x1 x2 i _ m (by omega) c2 hl _ _
theorem rorderD (x0 x1 : List S33) (x2 : List Bool) (h0 : x0.length < 1000000000) (h1 : x1.length < 1000000000) (hl : x2.length ≤ maxLen) : ∃ k, rows_order.f k x0 x1 x2 = some (ordD x0 x1 x2) := by
  refine ⟨2 * (mx (x0.length : Int) (x1.length : Int)).toNat + 8 + 0, ?_⟩
  unfold rows_order.f
  have := order_l0 x0 x1 x2 h0 h1 hl _ rfl (mx (x0.length : Int) (x1.length : Int)).toNat 0 0 (by unfold mx; split <;> omega)
  simpa using this
/-- rows.order's contract. -/
theorem rows_order_calls (A0 : Option Addr) (c0 : Nat) (l0 : List (S33)) (A1 : Option Addr) (c1 : Nat) (l1 : List (S33)) (A2 : Option Addr) (c2 : Nat) (l2 : List Bool) (w : World) (hr0 : Kd.C k33 w A0 l0.length l0) (hc0 : l0.length ≤ c0) (hr1 : Kd.C k33 w A1 l1.length l1) (hc1 : l1.length ≤ c1) (hr2 : Kd.C Kd.bool w A2 l2.length l2) (hc2 : l2.length ≤ c2)
    (h0 : l0.length < 1000000000) (h1 : l1.length < 1000000000) (hl : l2.length ≤ maxLen) :
    Calls Try.prog 96 #[.slice A0 l0.length c0, .slice A1 l1.length c1, .slice A2 l2.length c2] w fun e w' => e = .returned (.int .i64 (ordD l0 l1 l2)) ∧ Below w.heap.size w w' := by
  obtain ⟨k, hk⟩ := rorderD l0 l1 l2 h0 h1 hl
  exact rows_order.calls k A0 c0 l0 A1 c1 l1 A2 c2 l2 _ w hr0 hc0 hr1 hc1 hr2 hc2 hk
end Go.Proofs.Ythghflgmeepnlaa.Pa
end
section
namespace Go.Proofs.Ythghflgmeepnlaa.Pa
open Go.RowKit Go.Proofs.YthghflgmeepnlaaW.PrintWords Go.Proofs.YthghflgmeepnlaaW.PrintLast Go.Proofs.YthghflgmeepnlaaW.PrintMore
set_option linter.unusedVariables false
set_option linter.unusedSimpArgs false
/-- A place's key. -/
def keyL (keys : List (List S33)) (i : Nat) : List S33 := keys.getD i []
theorem keyL_rd (keys : List (List S33)) (i : Nat) : rd_L4 keys (i : Int) = keyL keys i := by unfold rd_L4 keyL; simp
set_option maxHeartbeats 4000000 in
set_option maxRecDepth 100000 in
theorem key_calls (i kb : Nat) (Ak : Option Addr) (ck : Nat) (keys : List (List S33)) (w : World) (hbox : w.cell? ⟨kb, 0, none⟩ = some (.slice Ak keys.length ck)) (hk : Kd.C (Kd.slice 33 k33) w Ak keys.length keys) :
    ∃ A c, (keyL keys i).length ≤ c ∧ Kd.C k33 w A (keyL keys i).length (keyL keys i) ∧ ∀ W, Below w.heap.size w W → Calls Try.prog 93 #[enN i, .pointer (some ⟨kb, 0, none⟩)] W fun e w' => e = .returned (.slice A (keyL keys i).length c) ∧ Below W.heap.size W w' := by
  by_cases c1 : (i : Int) < (keys.length : Int)
  · have c1b : decide ((i : Int) < (keys.length : Int)) = true := decide_eq_true c1
    have c2b : decide ((0 : Int) ≤ i) = true := decide_eq_true (by omega)
    have p0 : (0 : Int) ≤ i := by omega
    obtain ⟨ad, A1, c, e1, hx1, hl1, hi1⟩ := at_L4 hk (i : Int) p0 c1
    cases e1
    rw [keyL_rd] at hx1 hl1 hi1
    simp only [Int.toNat_natCast] at hx1
    refine ⟨A1, c, hl1, hi1, fun W hW => ?_⟩
    have hx2 := pw_cell_below hW hx1
    have hb2 := pw_cell_below hW hbox
    have HB := Aside0.mk (Below.refl W.heap.size W)
    clear hx1 hbox hi1 hl1 hk hW
    go_enter Try.func93, Try.ntmps93
    go_wp2
    go_ret
    exact ⟨rfl, HB.out⟩
  · have c1b : decide ((i : Int) < (keys.length : Int)) = false := decide_eq_false c1
    have e0 : keyL keys i = [] := by unfold keyL; rw [List.getD_eq_getElem?_getD, List.getElem?_eq_none (by omega)]; rfl
    rw [e0]
    refine ⟨none, 0, Nat.le_refl _, ?_, fun W hW => ?_⟩
    · exact ⟨rfl, by simp, fun h => absurd h (by simp)⟩
    have hb2 := pw_cell_below hW hbox
    have HB := Aside0.mk (Below.refl W.heap.size W)
    clear hbox hk hW e0
    go_enter Try.func93, Try.ntmps93
    go_wp2
    go_ret
    exact ⟨rfl, HB.out⟩
set_option maxHeartbeats 8000000 in
set_option maxRecDepth 1000000 in
theorem cmp_calls (i j fb kb db : Nat) (Ak : Option Addr) (ck : Nat) (keys : List (List S33)) (Ad : Option Addr) (cd : Nat) (desc : List Bool) (w : World)
    (hf : w.cell? ⟨fb, 0, none⟩ = some (.func (.func 93) #[] #[.pointer (some ⟨kb, 0, none⟩)]))
    (hbox : w.cell? ⟨kb, 0, none⟩ = some (.slice Ak keys.length ck)) (hd : w.cell? ⟨db, 0, none⟩ = some (.slice Ad desc.length cd))
    (hk : Kd.C (Kd.slice 33 k33) w Ak keys.length keys) (hdc : Kd.C Kd.bool w Ad desc.length desc) (hdl : desc.length ≤ cd) (hkl : ∀ r ∈ keys, r.length < 1000000000) (hdn : desc.length ≤ maxLen) :
    Calls Try.prog 95 #[enN i, enN j, .pointer (some ⟨fb, 0, none⟩), .pointer (some ⟨db, 0, none⟩)] w fun e w' => e = .returned (.int .i64 (ordD (keyL keys i) (keyL keys j) desc)) ∧ Below w.heap.size w w' := by
  have hki : ∀ i, (keyL keys i).length < 1000000000 := fun i => by
    unfold keyL
    by_cases h : i < keys.length
    · rw [List.getD_eq_getElem?_getD, List.getElem?_eq_getElem h]; exact hkl _ (List.getElem_mem h)
    · rw [List.getD_eq_getElem?_getD, List.getElem?_eq_none (by omega)]; simp
  obtain ⟨Ai, ci, hli, hci, hi⟩ := key_calls i kb Ak ck keys w hbox hk
  obtain ⟨Aj, cj, hlj, hcj, hj⟩ := key_calls j kb Ak ck keys w hbox hk
  have HO := Aside0.mk (fun W (hW : Below w.heap.size w W) => rows_order_calls Ai ci (keyL keys i) Aj cj (keyL keys j) Ad cd desc W (Kd.C_below hci hW) hli (Kd.C_below hcj hW) hlj (Kd.C_below hdc hW) hdl (hki i) (hki j) hdn)
  have HB := Aside0.mk (Below.refl w.heap.size w)
  have HI := Aside0.mk hi
  have HJ := Aside0.mk hj
  clear hk hdc hbox hdl hkl hki hdn hli hci hi hlj hcj hj
  obtain ⟨ri, hri⟩ : ∃ r, r = keyL keys i := ⟨_, rfl⟩
  obtain ⟨rj, hrj⟩ : ∃ r, r = keyL keys j := ⟨_, rfl⟩
  rw [← hri] at HI
  rw [← hrj] at HJ
  rw [← hri, ← hrj] at HO ⊢
  clear hri hrj
  go_enter Try.func95, Try.ntmps95
  go_wp2_with fail
  go_region_held3 (fun w' => w'.cell? ⟨fb, 0, none⟩ = some (.func (.func 93) #[] #[.pointer (some ⟨kb, 0, none⟩)]) ∧ w'.cell? ⟨db, 0, none⟩ = some (.slice Ad desc.length cd))
    (first | go_keep | (refine ⟨?_, ?_⟩ <;> refine pw_cell_below hbl ?_ <;> first | assumption | (simp only [*]; done)))
    (first
      | (go_at_call 96; refine (HO.out _ (by first | exact HB.out | exact below_drew1 HB.out)).mono ?_; rintro e w' ⟨rfl, hbl⟩; have n0_ := Aside0.mk (below_step (by first | exact HB.out | exact below_drew1 HB.out) hbl); clear HB; have HB := n0_; clear n0_)
      | (go_at_call_of 93 i; refine (HI.out _ (by first | exact HB.out | exact below_drew1 HB.out)).mono ?_; rintro e w' ⟨rfl, hbl⟩; have n0_ := Aside0.mk (below_step (by first | exact HB.out | exact below_drew1 HB.out) hbl); clear HB; have HB := n0_; clear n0_)
      | (go_at_call_of 93 j; refine (HJ.out _ (by first | exact HB.out | exact below_drew1 HB.out)).mono ?_; rintro e w' ⟨rfl, hbl⟩; have n0_ := Aside0.mk (below_step (by first | exact HB.out | exact below_drew1 HB.out) hbl); clear HB; have HB := n0_; clear n0_))
  go_wp2
  go_ret
  exact ⟨rfl, HB.out⟩
end Go.Proofs.Ythghflgmeepnlaa.Pa
end
section
namespace Go.Proofs.Ythghflgmeepnlaa.Pa
open Go.RowKit Go.Proofs.YthghflgmeepnlaaW.PrintWords Go.Proofs.YthghflgmeepnlaaW.PrintLast Go.Proofs.YthghflgmeepnlaaW.PrintMore
set_option linter.unusedVariables false
set_option linter.unusedSimpArgs false
/-- What is asked of a comparison, from world w on, block g aside. -/
structure CmpOk (fk : Nat) (caps : Array Value) (cf : Nat → Nat → Int) (N g : Nat) (w : World) : Prop where
  enter : ∀ (x y : Nat) (W : World), Sem.run Try.prog (callFunc fk (#[enN x, enN y] ++ caps)) W = Result.ok (Next.enter fk (#[enN x, enN y] ++ caps)) W
  call : ∀ (W : World) (x y : Nat), w.grownBy W (some g) → x < N → y < N → Calls Try.prog fk (#[enN x, enN y] ++ caps) W fun e w' => e = .returned (.int .i64 (cf x y)) ∧ Below W.heap.size W w'
theorem ins_calls' {fk : Nat} {caps : Array Value} {cf : Nat → Nat → Int} {N g : Nat} {w : World} (hc : CmpOk fk caps cf N g w) (cap a b : Nat) (xs : List Nat)
    (hh : HoldI w g xs) (hab : a ≤ b) (hb : b ≤ xs.length) (hsz : xs.length < 4611686018427387904) (hx : ∀ x ∈ xs, x < N) :
    Calls Try.prog 114 #[.slice (some ⟨g, 0, none⟩) xs.length cap, .int .i64 a, .int .i64 b, .func (.func fk) #[] caps] w fun e w' => e = .returned (.tuple #[]) ∧ w.grownBy w' (some g) ∧ HoldI w' g (insS cf a b xs) :=
  ins_calls fk caps cf N g cap a b xs w hh hab hb hsz hx hc.enter hc.call
set_option maxHeartbeats 4000000 in
set_option maxRecDepth 100000 in
theorem stable_small {fk : Nat} {caps : Array Value} {cf : Nat → Nat → Int} {N g : Nat} {w : World} (hc : CmpOk fk caps cf N g w) (cap : Nat) (xs : List Nat)
    (hh : HoldI w g xs) (hsz : xs.length < 20) (hx : ∀ x ∈ xs, x < N) :
    Calls Try.prog 113 #[.slice (some ⟨g, 0, none⟩) xs.length cap, .int .i64 xs.length, .func (.func fk) #[] caps] w fun e w' => e = .returned (.tuple #[]) ∧ w.grownBy w' (some g) ∧ HoldI w' g (insS cf 0 xs.length xs) := by
  have HI := Aside0.mk (ins_calls' hc cap 0 xs.length xs hh (Nat.zero_le _) (Nat.le_refl _) (by omega) hx)
  have c1 : decide ((20 : Int) ≤ (xs.length : Int)) = false := decide_eq_false (by omega)
  have c2 : decide ((20 : Int) < (xs.length : Int)) = false := decide_eq_false (by omega)
  have c3 : ¬ 20 ≤ xs.length := by omega
  have c4 : ¬ 20 < xs.length := by omega
  clear hc hh hx
  go_enter Try.func113, Try.ntmps113
  go_wp2
  refine wp_loop_rounds 1 ?_
  rw [rounds_succ]
  go_wp2_with fail
  refine HI.out.mono ?_
  rintro e w1 ⟨rfl, hg, hh⟩
  have HG := Aside0.mk hg
  have HH := Aside0.mk hh
  clear hg hh
  go_wp2
  refine wp_loop_rounds 1 ?_
  rw [rounds_succ]
  go_wp2
  go_end0
  exact ⟨rfl, HG.out, HH.out⟩
set_option maxHeartbeats 4000000 in
set_option maxRecDepth 100000 in
theorem sortfunc_small {fk : Nat} {caps : Array Value} {cf : Nat → Nat → Int} {N g : Nat} {w : World} (hc : CmpOk fk caps cf N g w) (cap : Nat) (xs : List Nat)
    (hh : HoldI w g xs) (hsz : xs.length < 20) (hx : ∀ x ∈ xs, x < N) :
    Calls Try.prog 94 #[.slice (some ⟨g, 0, none⟩) xs.length cap, .func (.func fk) #[] caps] w fun e w' => e = .returned (.tuple #[]) ∧ w.grownBy w' (some g) ∧ HoldI w' g (insS cf 0 xs.length xs) := by
  have HI := Aside0.mk (stable_small hc cap xs hh hsz hx)
  clear hc hh hx
  go_enter Try.func94, Try.ntmps94
  go_wp2_with fail
  refine HI.out.mono ?_
  rintro e w1 ⟨rfl, hg, hh⟩
  have HG := Aside0.mk hg
  have HH := Aside0.mk hh
  clear hg hh
  go_wp2
  go_end0
  exact ⟨rfl, HG.out, HH.out⟩
end Go.Proofs.Ythghflgmeepnlaa.Pa
end
section
namespace Go.Proofs.Ythghflgmeepnlaa.Pa
open Go.RowKit Go.Proofs.YthghflgmeepnlaaW.PrintWords Go.Proofs.YthghflgmeepnlaaW.PrintLast Go.Proofs.YthghflgmeepnlaaW.PrintMore
set_option linter.unusedVariables false
set_option linter.unusedSimpArgs false
theorem made_ints (n : Nat) : madeCells (Value.int .i64 0).cells (n * 1) = ((List.replicate n 0).map enN).toArray := by
  rw [Nat.mul_one]
  apply Array.ext'
  simp [madeCells, Value.cells]
  apply List.ext_getElem
  · simp
  · intro i h1 h2
    simp [Nat.mod_one]
theorem make_ints (n : Nat) (h : n < 1000000000) (w : World) :
    Sem.run Try.prog (Instr.makeSlice 23 (.int .i64 (n : Int)) (.int .i64 (n : Int))) w = Result.ok (.slice (some ⟨w.heap.size, 0, none⟩) n n) (w.alloc (.cells ((List.replicate n 0).map enN).toArray 3)) := by
  obtain ⟨i, hi, hz0, hz1, hz2⟩ := info_parts (show (Try.prog.info? 3).map (fun i => (i.zero, i.size, i.bytes)) = some (some (.int .i64 0), 1, 8) from by kernel_rfl)
  have := run_make (P := Try.prog) w 23 3 i (.int .i64 0) Try.underlying23 hi hz0 .i64 .i64 n n (by omega) (Int.le_refl _) (by rw [hz2]; omega) (by omega)
  rw [Int.toNat_natCast, hz1, made_ints] at this
  exact this
theorem al_size (w : World) (o : Obj) : (w.alloc o).heap.size = w.heap.size + 1 := by show (w.heap.push o).size = _; simp
theorem al3 (w : World) (a b c : Obj) : (((w.alloc a).alloc b).alloc c).heap[w.heap.size]? = some a ∧ (((w.alloc a).alloc b).alloc c).heap[w.heap.size + 1]? = some b ∧ (((w.alloc a).alloc b).alloc c).heap[w.heap.size + 2]? = some c := by
  refine ⟨?_, ?_, ?_⟩
  · rw [heap_alloc_old _ c (by rw [al_size, al_size]; omega)]; exact heap_alloc2_old w a b
  · rw [heap_alloc_old _ c (by rw [al_size, al_size]; omega)]; exact heap_alloc2_new w a b
  · have := heap_alloc_new ((w.alloc a).alloc b) c
    rwa [al_size, al_size] at this
/-- The two boxes of a call, and what lay ahead of it. -/
structure Boxes (w : World) (kv dv : Value) (W : World) : Prop where
  kb : W.heap[w.heap.size]? = some (.cells #[kv] 58 (0, 0))
  db : W.heap[w.heap.size + 1]? = some (.cells #[dv] 59 (0, 0))
  below : Below w.heap.size w W
theorem Boxes.grown {w W W1 : World} {kv dv : Value} (h : Boxes w kv dv W) (hg : W.grownBy W1 (some (w.heap.size + 2))) : Boxes w kv dv W1 :=
  ⟨(hg.block _ (lt_of_block h.kb) (by simp)).trans h.kb, (hg.block _ (lt_of_block h.db) (by simp)).trans h.db, pw_below_grown h.below _ h.below.size hg (fun k hk => by injection hk with hk; omega)⟩
theorem Boxes.later {w W W1 : World} {kv dv : Value} (h : Boxes w kv dv W) (hb : Below W.heap.size W W1) : Boxes w kv dv W1 :=
  ⟨(hb.block _ (lt_of_block h.kb)).trans h.kb, (hb.block _ (lt_of_block h.db)).trans h.db, below_step h.below hb⟩
theorem cmp_ok {W : World} {fb kb db g N b1 b2 : Nat} {A1 A2 : Option Addr} {c1 c2 : Nat} {keys : List (List S33)} {desc : List Bool} {ok1 ok2 : Nat → Prop}
    (hf : W.heap[fb]? = some (.cells #[.func (.func 93) #[] #[.pointer (some ⟨kb, 0, none⟩)]] 100 (0, 0)))
    (hk : W.heap[kb]? = some (.cells #[.slice A1 keys.length c1] 58 (0, 0))) (hd : W.heap[db]? = some (.cells #[.slice A2 desc.length c2] 59 (0, 0)))
    (nf : fb ≠ g) (nk : kb ≠ g) (nd : db ≠ g) (h1 : Kd.V (Kd.slice 33 k33) 22 W b1 ok1 (.slice A1 keys.length c1) keys) (h2 : Kd.V Kd.bool 4 W b2 ok2 (.slice A2 desc.length c2) desc)
    (n1 : ∀ k, ok1 k → k ≠ g) (n2 : ∀ k, ok2 k → k ≠ g) (hkl : ∀ r ∈ keys, r.length < 1000000000) (hdn : desc.length ≤ maxLen) :
    CmpOk 95 #[.pointer (some ⟨fb, 0, none⟩), .pointer (some ⟨db, 0, none⟩)] (fun i j => ordD (keyL keys i) (keyL keys j) desc) N g W := by
  refine ⟨fun x y W1 => enter_of Try.func95 (by kernel_rfl) (by kernel_rfl) _ W1, fun W1 x y hW _ _ => ?_⟩
  have e : (#[enN x, enN y] ++ #[Value.pointer (some ⟨fb, 0, none⟩), Value.pointer (some ⟨db, 0, none⟩)]) = #[enN x, enN y, Value.pointer (some ⟨fb, 0, none⟩), Value.pointer (some ⟨db, 0, none⟩)] := rfl
  rw [e]
  have r1 := Kd.V_reads' (Kd.V_grown h1 hW (fun k hk he => n1 k hk (by injection he)))
  have r2 := Kd.V_reads' (Kd.V_grown h2 hW (fun k hk he => n2 k hk (by injection he)))
  exact cmp_calls x y fb kb db A1 c1 keys A2 c2 desc W1 (cell_of_one ((hW.block _ (lt_of_block hf) (fun he => nf (by injection he))).trans hf))
    (cell_of_one ((hW.block _ (lt_of_block hk) (fun he => nk (by injection he))).trans hk)) (cell_of_one ((hW.block _ (lt_of_block hd) (fun he => nd (by injection he))).trans hd))
    r1.2.2 r2.2.2 r2.2.1 hkl hdn
set_option maxHeartbeats 8000000 in
set_option maxRecDepth 1000000 in
theorem Sort_calls (P0_ P1_ P2_ : Nat → Prop) (A0 : Option Addr) (c0 : Nat) (l0 : List (List S33)) (A1 : Option Addr) (c1 : Nat) (keys : List (List S33)) (A2 : Option Addr) (c2 : Nat) (desc : List Bool) (w : World)
    (hs0 : Kd.V (Kd.slice 33 k33) 22 w w.heap.size (fun k_ => P0_ k_) (.slice A0 l0.length c0) l0)
    (hs1 : Kd.V (Kd.slice 33 k33) 22 w w.heap.size (fun k_ => P1_ k_) (.slice A1 keys.length c1) keys)
    (hs2 : Kd.V Kd.bool 4 w w.heap.size (fun k_ => P2_ k_) (.slice A2 desc.length c2) desc)
    (hl : l0.length < 1000000000) (hkl : ∀ r ∈ keys, r.length < 1000000000) (hdn : desc.length ≤ maxLen)
    (ys : List Nat) (hyl : ys.length = l0.length) (hys : ∀ y ∈ ys, y < l0.length)
    (hsort : ∀ (fk : Nat) (caps : Array Value) (g : Nat) (W : World), CmpOk fk caps (fun i j => ordD (keyL keys i) (keyL keys j) desc) l0.length g W → HoldI W g (List.range l0.length) →
      Calls Try.prog 94 #[.slice (some ⟨g, 0, none⟩) l0.length l0.length, .func (.func fk) #[] caps] W fun e w' => e = .returned (.tuple #[]) ∧ W.grownBy w' (some g) ∧ HoldI w' g ys) :
    Calls Try.prog 57 #[.slice A0 l0.length c0, .slice A1 keys.length c1, .slice A2 desc.length c2] w fun e w' => ∃ v0_ : Value, e = .returned (v0_) ∧ Kd.N (Kd.slice 33 k33) 22 w' w.heap.size (fun k_ => (P0_ k_ ∨ w.heap.size ≤ k_)) v0_ (ys.map (keyL l0)) ∧ Below w.heap.size w w' := by
  have hmk := make_ints l0.length hl
  have hmf : ∀ (fn : Fn) (first cap : Array Value) (w : World), (Instr.makeFunc fn first cap).run Try.prog w = .ok (.func fn first cap) w := fun _ _ _ _ => rfl
  have HV0 := Aside0.mk (Kd.V_bound hs0)
  have HV1 := Aside0.mk (Kd.V_bound hs1)
  have HV2 := Aside0.mk (Kd.V_bound hs2)
  have HB := Aside0.mk (Below.refl w.heap.size w)
  have HS := Aside0.mk hsort
  have HY := Aside0.mk hys
  have HYL := Aside0.mk hyl
  have HKL := Aside0.mk hkl
  have HDN := Aside0.mk hdn
  have HL := Aside0.mk hl
  clear hs0 hs1 hs2 hsort hys hyl hkl hdn hl
  go_enter Try.func57, Try.ntmps57
  go_wp2_with fail
  obtain ⟨ha1, ha2, ha3⟩ := al3 w (Obj.cells #[Value.slice A1 keys.length c1] 58) (Obj.cells #[Value.slice A2 desc.length c2] 59) (Obj.cells (Array.replicate l0.length (enN 0)) 3)
  have HX := Aside0.mk (show Boxes w (.slice A1 keys.length c1) (.slice A2 desc.length c2) (((w.alloc (Obj.cells #[Value.slice A1 keys.length c1] 58)).alloc (Obj.cells #[Value.slice A2 desc.length c2] 59)).alloc (Obj.cells (Array.replicate l0.length (enN 0)) 3)) from ⟨ha1, ha2, below_alloc (below_alloc (below_alloc HB.out _) _) _⟩)
  have HH := Aside0.mk (show HoldI (((w.alloc (Obj.cells #[Value.slice A1 keys.length c1] 58)).alloc (Obj.cells #[Value.slice A2 desc.length c2] 59)).alloc (Obj.cells (Array.replicate l0.length (enN 0)) 3)) (w.heap.size + 2) (List.range 0 ++ List.replicate (l0.length - 0) 0) by
    unfold HoldI
    rw [ha3]
    congr 2
    apply Array.ext'
    simp)
  clear ha1 ha2 ha3
  generalize (((w.alloc (Obj.cells #[Value.slice A1 keys.length c1] 58)).alloc (Obj.cells #[Value.slice A2 desc.length c2] 59)).alloc (Obj.cells (Array.replicate l0.length (enN 0)) 3)) = W1 at HX HH ⊢
  obtain ⟨g, hgE⟩ : ∃ g, g = w.heap.size + 1 + 1 := ⟨_, rfl⟩
  have HGE := Aside0.mk (show g = w.heap.size + 2 from hgE)
  rw [← HGE.out] at HH
  rw [← hgE]
  clear hgE
  go_loopg [18] l0.length (fun kq v18 w' => ∃ i : Nat, v18 = .int .i64 (i : Int) ∧ Aside0 (i + kq = l0.length) ∧ Aside0 (HoldI w' g (List.range i ++ List.replicate (l0.length - i) 0)) ∧ Aside0 (Boxes w (.slice A1 keys.length c1) (.slice A2 desc.length c2) w'))
  case atStart => exact ⟨0, rfl, ⟨by simp⟩, HH, HX⟩
  case round =>
    clear HH HX
    obtain ⟨i, rfl, HI, HH, HX⟩ := hrel
    by_cases c2 : (i : Int) < (l0.length : Int)
    · have c2b : decide ((i : Int) < (l0.length : Int)) = true := decide_eq_true c2
      obtain ⟨k1, rfl⟩ : ∃ k1, gk = k1 + 1 := ⟨gk - 1, by have := HI.out; omega⟩
      have p0 : (0 : Int) ≤ i := by omega
      have hli := HL.out
      have HW := Aside0.mk (show wrap64 ((i : Int) + 1) = ((i + 1 : Nat) : Int) by unfold wrap64; omega)
      clear hli
      have hx : (List.range i ++ List.replicate (l0.length - i) 0)[i]? = some 0 := by
        rw [List.getElem?_append_right (by simp), List.length_range, Nat.sub_self, List.getElem?_replicate, if_pos (by omega)]
      have hc1 := HH.out.cell hx
      have hf1 := HH.out.free i
      clear hx
      have HN := Aside0.mk (show HoldI (wr.setCell ⟨g, i, none⟩ (enN i)) g (List.range (i + 1) ++ List.replicate (l0.length - (i + 1)) 0) by
        have h1 := HH.out.set i i
        rwa [List.set_append_right _ _ (by simp), List.length_range, Nat.sub_self, show l0.length - i = (l0.length - (i + 1)) + 1 by omega, List.replicate_succ, List.set_cons_zero, List.append_cons, ← List.range_succ] at h1)
      have HXN := Aside0.mk (Boxes.grown HX.out (show wr.grownBy (wr.setCell ⟨g, i, none⟩ (enN i)) (some (w.heap.size + 2)) by rw [← HGE.out]; exact gr_set ⟨rfl, rfl, rfl, Nat.le_refl _, fun _ _ _ => rfl⟩ _))
      go_wp2
      go_roundg k1
      case measure => omega
      case rel => exact ⟨i + 1, by rw [HW.out], ⟨by have := HI.out; omega⟩, HN, HXN⟩
    · have c2b : decide ((i : Int) < (l0.length : Int)) = false := decide_eq_false c2
      have e13 : i = l0.length := by have := HI.out; omega
      subst e13
      have HH2 := Aside0.mk (show HoldI wr g (List.range l0.length) by have h1 := HH.out; rwa [Nat.sub_self, List.replicate_zero, List.append_nil] at h1)
      clear HH
      have hna : (wr.alloc (.cells #[.nilFunc] 100)).heap[wr.heap.size]? = some (.cells #[.nilFunc] 100 (0, 0)) := heap_alloc_new _ _
      have hca := cell_of_one hna
      have hfa := free_of_one hna
      obtain ⟨F, hF⟩ : ∃ F, F = Value.func (Fn.func 93) #[] #[Value.pointer (some { block := w.heap.size, off := 0 })] := ⟨_, rfl⟩
      have hnF := one_setCell (u := F) hna
      have hBF : Below wr.heap.size wr (wr.alloc (.cells #[F] 100)) := (Below.refl _ _).alloc (Nat.le_refl _) _
      have hNF : (wr.alloc (.cells #[F] 100)).heap[wr.heap.size]? = some (.cells #[F] 100 (0, 0)) := heap_alloc_new _ _
      rw [hF] at hNF hBF
      have HBF := Aside0.mk hBF
      have HNF := Aside0.mk hNF
      clear hna hnF hF hNF hBF
      go_wp2_with fail
      generalize hWW : (wr.alloc (Obj.cells #[Value.func (Fn.func 93) #[] #[Value.pointer (some { block := w.heap.size, off := 0 })]] 100)) = W2 at HBF HNF ⊢
      clear hWW
      have HX2 := Aside0.mk (HX.out.later HBF.out)
      have HH3 := Aside0.mk (HH2.out.below HBF.out)
      have HFB := Aside0.mk (show wr.heap.size ≠ g by have := HH2.out.lt; omega)
      have hge := HGE.out
      have HCK := cmp_ok (N := l0.length) HNF.out HX2.out.kb HX2.out.db HFB.out (by omega) (by omega) (Kd.V_below HV1.out HX2.out.below) (Kd.V_below HV2.out HX2.out.below) (fun k hk => by have := hk.2; omega) (fun k hk => by have := hk.2; omega) HKL.out HDN.out
      refine (HS.out _ _ _ _ HCK HH3.out).mono ?_
      rintro e w3 ⟨rfl, hg3, hh3⟩
      rw [hge] at hg3
      have HX3 := Aside0.mk (HX2.out.grown hg3)
      have HY3 := Aside0.mk hh3
      have HV3 := Aside0.mk (Kd.V_below HV0.out HX3.out.below)
      have HB3 := Aside0.mk HX3.out.below
      clear hge HCK hg3 hh3 HX HH2 HBF HNF HX2 HH3 HFB HV1 HV2 HS HKL HDN hmk hmf
      go_wp2_with fail
      go_loopg [10, 32] l0.length (fun kq v10 v32 w' => ∃ (i : Nat), v32 = .int .i64 (i : Int) ∧ Aside0 (i + kq = l0.length) ∧ Aside0 (HoldI w' g ys) ∧ Aside0 (Kd.V (Kd.slice 33 k33) 22 w' w.heap.size (fun k_ => P0_ k_ ∧ k_ < w.heap.size) (.slice A0 l0.length c0) l0) ∧ Aside0 (Kd.N (Kd.slice 33 k33) 22 w' w.heap.size (fun k_ => (P0_ k_ ∧ k_ < w.heap.size) ∨ g < k_) v10 ((ys.take i).map (keyL l0))) ∧ Aside0 (Below w.heap.size w w'))
      case atStart => exact ⟨0, rfl, ⟨by simp⟩, HY3, HV3, ⟨by simpa using Kd.N_nil _ _ _ _ _⟩, HB3⟩
      case round =>
        clear HY3 HV3 HB3 HX3
        obtain ⟨i, rfl, HI, HH, HV, HN, HB⟩ := hrel
        by_cases c3 : (i : Int) < (l0.length : Int)
        · have c3b : decide ((i : Int) < (l0.length : Int)) = true := decide_eq_true c3
          obtain ⟨k1, rfl⟩ : ∃ k1, gk = k1 + 1 := ⟨gk - 1, by have := HI.out; omega⟩
          have p0 : (0 : Int) ≤ i := by omega
          have hli := HL.out
          have HW := Aside0.mk (show wrap64 ((i : Int) + 1) = ((i + 1 : Nat) : Int) by unfold wrap64; omega)
          have hiy : i < ys.length := by have := HYL.out; omega
          obtain ⟨y, hy⟩ : ∃ y, ys[i]? = some y := ⟨ys[i], List.getElem?_eq_getElem hiy⟩
          have hyl := HY.out y (List.mem_of_getElem? hy)
          have hcy := HH.out.cell hy
          have p1 : (0 : Int) ≤ (y : Int) := by omega
          have q1 : (y : Int) < (l0.length : Int) := by omega
          have q1b : decide ((y : Int) < (l0.length : Int)) = true := decide_eq_true q1
          have HT := Aside0.mk (show (ys.take i).map (keyL l0) ++ [keyL l0 y] = (ys.take (i + 1)).map (keyL l0) by
            rw [List.take_add_one, hy]; simp)
          have HTL := Aside0.mk (show ((ys.take i).map (keyL l0)).length < 1000000000 by rw [List.length_map, List.length_take]; omega)
          clear hli hiy hy hyl
          obtain ⟨ad, Ay, cy, e1, hx1, hl1, hi1⟩ := at_L4 (Kd.V_reads' HV.out).2.2 (y : Int) p1 q1
          cases e1
          obtain ⟨ce, hce, hMe, hcc⟩ := Kd.V_get HV.out [] (y : Int) p1 q1
          obtain ⟨ua, uc, rfl, ul, ge⟩ := Kd.FK_slice_open hMe
          have hv := hcc 0 _ rfl
          rw [Nat.add_zero, show ((Kd.slice 33 k33)).sz = 1 from rfl, Nat.mul_one] at hv
          replace hv := Option.some.inj (hv.symm.trans hx1)
          injection hv with hva_ hvn_ hvc_
          rw [hva_] at ge
          rw [hvc_] at ul
          rw [show l0.getD (y : Int).toNat [] = keyL l0 y by simp [keyL]] at ge ul
          have HF := Aside0.mk (show Kd.V k33 33 _ w.heap.size _ (.slice Ay (keyL l0 y).length cy) (keyL l0 y) from Kd.V_mk ul ge)
          clear hva_ hvn_ hvc_ ge ul hcc hce hMe hi1 hl1
          rw [keyL_rd] at hx1
          simp only [Int.toNat_natCast] at hx1
          obtain ⟨Ao, co, eo⟩ := Kd.N_slice HN.out
          subst eo
          obtain ⟨x10, hx10⟩ : ∃ x, x = (ys.take i).map (keyL l0) := ⟨_, rfl⟩
          rw [← hx10] at HN HT HTL ⊢
          clear hx10
          go_wp2_with ((with_reducible refine gate_builtin (b := .append) (xs := #[.tmp 36, .tmp 41]) rfl ?_); at_builtin; refine Kd.N_append (Kd.slice 33 k33) (w0 := w) w.heap.size rfl (.tmp 36) (.tmp 41) 58 22 (.slice none 0 0) 24 rfl Try.underlying58 info22 rfl (by decide) (by omega) (.slice Ao x10.length co) x10 (keyL l0 y) [.slice Ay (keyL l0 y).length cy] (fun k_ => (P0_ k_ ∧ k_ < w.heap.size) ∨ g < k_) (fun k_ => P0_ k_ ∧ k_ < w.heap.size) rfl rfl ?aP ?aK ?aF ?aO ?aB ?aS ?aL ?_; (case aP => exact (Kd.FK_slice_mk (Kd.V_reads' HF.out).2.1 (Kd.V_F HF.out))); (case aK => exact (fun k hk => ⟨.inl hk, fun he => by have h1 := N_base HN.out k he.symm; have h2 := hk.2; omega⟩)); (case aB => exact HB.out); (case aF => exact (fun k hk => .inr (Nat.lt_of_lt_of_le HH.out.lt hk))); (case aO => exact HN.out); (case aS => exact below_size HB.out); (case aL => have := HTL.out; omega); intro v9 w9 ho hb hg hat; have HN9 := Aside0.mk ho; have HB9 := Aside0.mk hb; have HV9 := Aside0.mk (Kd.V_grown HV.out hg (fun k hk he => by have h1 := N_base HN.out k he.symm; have h2 := hk.2; omega)); have HH9 := Aside0.mk (show HoldI w9 g ys from (hg.block g HH.out.lt (fun he => by have h1 := HN.out.1 _ he.symm; have h2 := HGE.out; rcases h1 with h1 | h1 <;> omega)).trans HH.out); clear ho hb hg hat HN HB HV HF HH)
          go_roundg k1
          case measure => omega
          case rel => exact ⟨i + 1, by rw [HW.out], ⟨by have := HI.out; omega⟩, HH9, HV9, ⟨by rw [← HT.out]; exact HN9.out⟩, HB9⟩
        · have c3b : decide ((i : Int) < (l0.length : Int)) = false := decide_eq_false c3
          have hN := HN.out
          have hge := HGE.out
          rw [List.take_of_length_le (by have := HI.out; have := HYL.out; omega)] at hN
          have HN2 := Aside0.mk (Kd.N_mono (ok' := fun k_ => P0_ k_ ∨ w.heap.size ≤ k_) hN (fun k hk => hk.imp (fun h => h.1) (fun h => by omega)))
          obtain ⟨Ao, co, eo⟩ := Kd.N_slice HN2.out
          subst eo
          clear hN hge HN
          go_wp2
          go_ret
          exact ⟨_, rfl, by have h := HN2.out; rw [List.length_map] at h; exact h, HB.out⟩
end Go.Proofs.Ythghflgmeepnlaa.Pa
end
section
namespace Go.Proofs.Ythghflgmeepnlaa.Pa
open Go.RowKit Go.Proofs.YthghflgmeepnlaaW.PrintWords Go.Proofs.YthghflgmeepnlaaW.PrintLast Go.Proofs.YthghflgmeepnlaaW.PrintMore
set_option linter.unusedVariables false
set_option linter.unusedSimpArgs false
theorem below_grown_none {W W1 : World} (h : W.grownBy W1 none) : Below W.heap.size W W1 := ⟨h.os, h.tape, h.output, h.size, fun k hk => h.block k hk (by simp)⟩
theorem V_lit {α : Type} (d : Kd α) (e : Nat) {W : World} {xs : List α} {inner : List Value} (hrep : Reps (Kd.FK d W (fun _ => True)) d.sz xs inner) (hm : xs.length ≤ 9223372036854775807) :
    Kd.V d e (W.alloc (.cells inner.toArray e)) 0 (fun _ => True) (.slice (some ⟨W.heap.size, 0, none⟩) xs.length xs.length) xs := by
  have hR : (Kd.raw d.sz).R e (W.alloc (.cells inner.toArray e)) 0 (fun k => k = W.heap.size) (.slice (some ⟨W.heap.size, 0, none⟩) xs.length xs.length) (Kd.chunks d.sz xs.length inner) := by
    refine ⟨fun k hk => ?_, inner, ?_, ?_⟩
    · have : W.heap.size = k := by simpa [Value.ownBlock] using hk
      exact this.symm
    · have h2 := World.ownsRow_lit (base := 0) (e := e) (size := d.sz) W inner.toArray xs.length (Nat.zero_le _) (by simpa [maxLen] using hm) (by simpa using hrep.1)
      rw [Kd.chunks_length]
      have h3 : (W.alloc (Obj.cells inner.toArray e)).ownsRow 0 e d.sz (Value.slice (some { block := W.heap.size, off := 0 }) xs.length xs.length) xs.length inner := by simpa using h2
      exact h3
    · exact Kd.reps_raw hrep (fun y c hk => ⟨d.K_len (Kd.FK_now hk), d.K_one (Kd.FK_now hk)⟩)
  exact Kd.N_V (Kd.N_made hR (World.grownBy_alloc W _ none) ⟨W.heap.size, by simp [Value.ownBlock], Nat.le_refl _⟩ (Kd.chunks_length _ _ _) (fun j y c hy hc => by rw [Kd.chunks_get hc]; exact hrep.2 j y hy) (fun _ h => h) trivial)
def r1 : List S33 := [⟨2, 1, ⟨#[]⟩⟩]
def r2 : List S33 := [⟨2, 2, ⟨#[]⟩⟩]
def r0 : List S33 := [⟨0, 0, ⟨#[]⟩⟩]
theorem one1 : cordonlaw11_one.f 1 = some r1 := by rfl
theorem one2 : cordonlaw11_one.f 2 = some r2 := by rfl
theorem ex_dist : distinctL [r1, r2, r1] = [r1, r2] := by kernel_rfl
theorem ex_sort : insS (fun i j => ordD (keyL [r2, r1, r0] i) (keyL [r2, r1, r0] j) []) 0 3 (List.range 3) = [2, 1, 0] := by decide +kernel
theorem ex_group : (groupsL [r2, r1, r0]).length = 3 := by decide +kernel
theorem ex_same1 : cordonref11_Same.f 100 [r1, r2] [r1, r2] = some true := by decide +kernel
theorem ex_same2 : cordonref11_Same.f 100 [r0, r1, r2] [r0, r1, r2] = some true := by decide +kernel
theorem sort_small (n : Nat) (hn : n < 20) (cf : Nat → Nat → Int) (fk : Nat) (caps : Array Value) (g : Nat) (W : World) (hc : CmpOk fk caps cf n g W) (hh : HoldI W g (List.range n)) :
    Calls Try.prog 94 #[.slice (some ⟨g, 0, none⟩) n n, .func (.func fk) #[] caps] W fun e w' => e = .returned (.tuple #[]) ∧ W.grownBy w' (some g) ∧ HoldI w' g (insS cf 0 n (List.range n)) := by
  have h := sortfunc_small hc n (List.range n) hh (by simpa using hn) (fun x hx => List.mem_range.1 hx)
  rw [List.length_range] at h
  exact h
set_option maxHeartbeats 8000000 in
set_option maxRecDepth 1000000 in
theorem alive_calls (w : World) : Calls Try.prog 55 #[] w fun e w' => e = .returned (.bool true) ∧ Below w.heap.size w w' := by
  have HB := Aside0.mk (Below.refl w.heap.size w)
  have hu33 := Try.underlying33
  go_enter Try.func55, Try.ntmps55
  go_wp2_with fail
  refine (cordonlaw11_one.calls 2 r2 _ one2).mono ?_
  rintro e wa ⟨va, rfl, ho, hb⟩
  replace HB := Aside0.mk (below_step HB.out hb)
  clear hb
  have a := Aside0.mk (Kd.R_V (base' := 0) ho)
  clear ho
  obtain ⟨Aa, ca, ea, _, _⟩ := a.out
  subst ea
  go_wp2_with fail
  refine (cordonlaw11_one.calls 1 r1 _ one1).mono ?_
  rintro e wb ⟨vb, rfl, ho, hb⟩
  replace a := Aside0.mk (Kd.V_below a.out hb)
  replace HB := Aside0.mk (below_step HB.out hb)
  clear hb
  have b := Aside0.mk (Kd.R_V (base' := 0) ho)
  clear ho
  obtain ⟨Ab, cb, eb, _, _⟩ := b.out
  subst eb
  go_wp2_with (first
    | ((with_reducible refine gate_dst (N := 5) rfl ?_); refine Kd.N_lit k33 0 33 ?hg (N' := 5) ?hd (xs := r0) (inner := [.int .i64 0, .int .i64 0, .string ⟨#[]⟩]) (ok := fun _ => True) (okp := fun _ => True) ?hr ?hp (fun _ h => h) trivial (Below.refl _ _) (Nat.zero_le _) (by simp [r0]) ?_; (case hd => rfl); (case hg => rfl); (case hr => first | (go_simp; done) | (go_simp; rfl)); (case hp => exact Reps.c3 (Kd.FK_of_M (base := 0) (k33_mkM _ _ _ (⟨0, 0, ⟨#[]⟩⟩ : S33))) (Reps.none _ _)); intro vz wz ho hb_ hg_ hnew_; have hb : Below _ _ wz := below_grown_none hg_; replace a := Aside0.mk (Kd.V_below a.out hb); replace b := Aside0.mk (Kd.V_below b.out hb); replace HB := Aside0.mk (below_step HB.out hb); have z := Aside0.mk (Kd.N_V (base' := 0) ho); (obtain ⟨Az, cz, ez, _, _⟩ := z.out); subst ez; clear ho hb hb_ hg_ hnew_)
    | ((with_reducible refine gate_dst (N := 6) rfl ?_); refine Kd.N_lit (Kd.slice 33 k33) 0 22 ?hg (N' := 6) ?hd (xs := ([r2, r1, r0] : List (List S33))) (inner := [.slice Aa r2.length ca, .slice Ab r1.length cb, .slice Az r0.length cz]) (ok := fun _ => True) (okp := fun _ => True) ?hr ?hp (fun _ h => h) trivial (Below.refl _ _) (Nat.zero_le _) (by simp) ?_; (case hd => rfl); (case hg => rfl); (case hr => first | (go_simp; done) | (go_simp; rfl)); (case hp => exact (Reps.one (show Kd.FK (Kd.slice 33 k33) _ (fun _ => True) r2 [.slice Aa r2.length ca] from Kd.FK_slice_mk (Kd.V_reads' a.out).2.1 (Kd.V_F a.out)) (Reps.one (show Kd.FK (Kd.slice 33 k33) _ (fun _ => True) r1 [.slice Ab r1.length cb] from Kd.FK_slice_mk (Kd.V_reads' b.out).2.1 (Kd.V_F b.out)) (Reps.one (show Kd.FK (Kd.slice 33 k33) _ (fun _ => True) r0 [.slice Az r0.length cz] from Kd.FK_slice_mk (Kd.V_reads' z.out).2.1 (Kd.V_F z.out)) (Reps.none _ _))))); intro vL wL ho hb_ hg_ hnew_; have hb : Below _ _ wL := below_grown_none hg_; replace a := Aside0.mk (Kd.V_below a.out hb); replace b := Aside0.mk (Kd.V_below b.out hb); replace z := Aside0.mk (Kd.V_below z.out hb); replace HB := Aside0.mk (below_step HB.out hb); have L := Aside0.mk (Kd.N_V (base' := 0) ho); (obtain ⟨AL, cL, eL, _, _⟩ := L.out); subst eL; clear ho hb hb_ hg_ hnew_))
  clear a b z
  refine (cordonlaw11_one.calls 1 r1 _ one1).mono ?_
  rintro e wa ⟨va, rfl, ho, hb⟩
  replace L := Aside0.mk (Kd.V_below L.out hb)
  replace HB := Aside0.mk (below_step HB.out hb)
  clear hb
  have a := Aside0.mk (Kd.R_V (base' := 0) ho)
  clear ho
  obtain ⟨Aa, ca, ea, _, _⟩ := a.out
  subst ea
  go_wp2_with fail
  refine (cordonlaw11_one.calls 2 r2 _ one2).mono ?_
  rintro e wb ⟨vb, rfl, ho, hb⟩
  replace L := Aside0.mk (Kd.V_below L.out hb)
  replace a := Aside0.mk (Kd.V_below a.out hb)
  replace HB := Aside0.mk (below_step HB.out hb)
  clear hb
  have b := Aside0.mk (Kd.R_V (base' := 0) ho)
  clear ho
  obtain ⟨Ab, cb, eb, _, _⟩ := b.out
  subst eb
  go_wp2_with fail
  refine (cordonlaw11_one.calls 1 r1 _ one1).mono ?_
  rintro e wd ⟨vd, rfl, ho, hb⟩
  replace L := Aside0.mk (Kd.V_below L.out hb)
  replace a := Aside0.mk (Kd.V_below a.out hb)
  replace b := Aside0.mk (Kd.V_below b.out hb)
  replace HB := Aside0.mk (below_step HB.out hb)
  clear hb
  have d := Aside0.mk (Kd.R_V (base' := 0) ho)
  clear ho
  obtain ⟨Ad, cd, ed, _, _⟩ := d.out
  subst ed
  go_wp2_with (first
    | ((with_reducible refine gate_dst (N := 10) rfl ?_); refine Kd.N_lit (Kd.slice 33 k33) 0 22 ?hg (N' := 10) ?hd (xs := ([r1, r2, r1] : List (List S33))) (inner := [.slice Aa r1.length ca, .slice Ab r2.length cb, .slice Ad r1.length cd]) (ok := fun _ => True) (okp := fun _ => True) ?hr ?hp (fun _ h => h) trivial (Below.refl _ _) (Nat.zero_le _) (by simp) ?_; (case hd => rfl); (case hg => rfl); (case hr => first | (go_simp; done) | (go_simp; rfl)); (case hp => exact (Reps.one (show Kd.FK (Kd.slice 33 k33) _ (fun _ => True) r1 [.slice Aa r1.length ca] from Kd.FK_slice_mk (Kd.V_reads' a.out).2.1 (Kd.V_F a.out)) (Reps.one (show Kd.FK (Kd.slice 33 k33) _ (fun _ => True) r2 [.slice Ab r2.length cb] from Kd.FK_slice_mk (Kd.V_reads' b.out).2.1 (Kd.V_F b.out)) (Reps.one (show Kd.FK (Kd.slice 33 k33) _ (fun _ => True) r1 [.slice Ad r1.length cd] from Kd.FK_slice_mk (Kd.V_reads' d.out).2.1 (Kd.V_F d.out)) (Reps.none _ _))))); intro vP wP ho hb_ hg_ hnew_; have hb : Below _ _ wP := below_grown_none hg_; replace L := Aside0.mk (Kd.V_below L.out hb); replace a := Aside0.mk (Kd.V_below a.out hb); replace b := Aside0.mk (Kd.V_below b.out hb); replace d := Aside0.mk (Kd.V_below d.out hb); replace HB := Aside0.mk (below_step HB.out hb); have P := Aside0.mk (Kd.N_V (base' := 0) ho); (obtain ⟨AP, cP, eP, _, _⟩ := P.out); subst eP; clear ho hb hb_ hg_ hnew_))
  clear a b d
  refine (rows_Distinct_calls (fun _ => True) AP cP [r1, r2, r1] wP P.out (by simp) (by simp [r1, r2]) (fun r hr => by simp only [List.mem_cons, List.not_mem_nil, or_false] at hr; rcases hr with rfl | rfl | rfl <;> exact (by decide +kernel))).mono ?_
  rintro e wD ⟨vD, rfl, ho, hb⟩
  rw [ex_dist] at ho
  clear P
  replace L := Aside0.mk (Kd.V_below L.out hb)
  replace HB := Aside0.mk (below_step HB.out hb)
  clear hb
  have D := Aside0.mk (Kd.V_mono (ok' := fun _ => True) (Kd.N_V (base' := 0) ho) (fun _ _ => trivial))
  clear ho
  obtain ⟨AD, cD, eD, _, _⟩ := D.out
  subst eD
  go_wp2_with fail
  refine (cordonlaw11_one.calls 1 r1 _ one1).mono ?_
  rintro e wa ⟨va, rfl, ho, hb⟩
  replace L := Aside0.mk (Kd.V_below L.out hb)
  replace D := Aside0.mk (Kd.V_below D.out hb)
  replace HB := Aside0.mk (below_step HB.out hb)
  clear hb
  have a := Aside0.mk (Kd.R_V (base' := 0) ho)
  clear ho
  obtain ⟨Aa, ca, ea, _, _⟩ := a.out
  subst ea
  go_wp2_with fail
  refine (cordonlaw11_one.calls 2 r2 _ one2).mono ?_
  rintro e wb ⟨vb, rfl, ho, hb⟩
  replace L := Aside0.mk (Kd.V_below L.out hb)
  replace D := Aside0.mk (Kd.V_below D.out hb)
  replace a := Aside0.mk (Kd.V_below a.out hb)
  replace HB := Aside0.mk (below_step HB.out hb)
  clear hb
  have b := Aside0.mk (Kd.R_V (base' := 0) ho)
  clear ho
  obtain ⟨Ab, cb, eb, _, _⟩ := b.out
  subst eb
  go_wp2_with fail
  have Q := Aside0.mk (V_lit (Kd.slice 33 k33) 22 (W := wb) (xs := [r1, r2]) (inner := [.slice Aa r1.length ca, .slice Ab r2.length cb]) (Reps.one (show Kd.FK (Kd.slice 33 k33) _ (fun _ => True) r1 [.slice Aa r1.length ca] from Kd.FK_slice_mk (Kd.V_reads' a.out).2.1 (Kd.V_F a.out)) (Reps.one (show Kd.FK (Kd.slice 33 k33) _ (fun _ => True) r2 [.slice Ab r2.length cb] from Kd.FK_slice_mk (Kd.V_reads' b.out).2.1 (Kd.V_F b.out)) (Reps.none _ _))) (by simp))
  have D2 := Aside0.mk (Kd.V_alloc D.out (.cells [.slice Aa r1.length ca, .slice Ab r2.length cb].toArray 22))
  refine (cordonref11_Same.calls 100 AD cD [r1, r2] _ _ [r1, r2] true _ (Kd.V_reads' D2.out).2.2 (Kd.V_reads' D2.out).2.1 (Kd.V_reads' Q.out).2.2 (Kd.V_reads' Q.out).2.1 ex_same1).mono ?_
  rintro e w7 ⟨rfl, nd, rfl⟩
  have hb := pw_below_drewN (below_alloc (Below.refl wb.heap.size wb) (.cells [.slice Aa r1.length ca, .slice Ab r2.length cb].toArray 22)) nd
  clear Q D2
  clear D a b
  replace L := Aside0.mk (Kd.V_below L.out hb)
  replace HB := Aside0.mk (below_step HB.out hb)
  clear hb
  generalize ((wb.alloc (.cells [.slice Aa r1.length ca, .slice Ab r2.length cb].toArray 22)).drewN nd) = W1 at L HB ⊢
  go_wp2_with fail
  refine (Sort_calls (fun _ => True) (fun _ => True) (fun _ => True) AL cL [r2, r1, r0] AL cL [r2, r1, r0] none 0 [] W1 L.out L.out (Kd.V_nil _ _ _ _ _) (by simp) (by simp [r0, r1, r2]) (by simp) [2, 1, 0] rfl (by simp) (fun fk caps g W hc hh => by have h := sort_small 3 (by omega) _ fk caps g W hc hh; rw [ex_sort] at h; exact h)).mono ?_
  rintro e wS ⟨vS, rfl, ho, hb⟩
  replace ho : Kd.N (Kd.slice 33 k33) 22 wS W1.heap.size (fun k_ => True ∨ W1.heap.size ≤ k_) vS [r0, r1, r2] := ho
  replace L := Aside0.mk (Kd.V_below L.out hb)
  replace HB := Aside0.mk (below_step HB.out hb)
  clear hb
  have D := Aside0.mk (Kd.V_mono (ok' := fun _ => True) (Kd.N_V (base' := 0) ho) (fun _ _ => trivial))
  clear ho
  obtain ⟨AD, cD, eD, _, _⟩ := D.out
  subst eD
  go_wp2_with fail
  have z := Aside0.mk (V_lit k33 33 (W := wS) (xs := r0) (inner := [.int .i64 0, .int .i64 0, .string ⟨#[]⟩]) (Reps.c3 (Kd.FK_of_M (base := 0) (k33_mkM _ _ _ (⟨0, 0, ⟨#[]⟩⟩ : S33))) (Reps.none _ _)) (by simp [r0]))
  have hb := below_alloc (Below.refl wS.heap.size wS) (.cells #[Value.int .i64 0, Value.int .i64 0, Value.string { data := #[] }] 33)
  replace L := Aside0.mk (Kd.V_below L.out hb)
  replace D := Aside0.mk (Kd.V_below D.out hb)
  replace HB := Aside0.mk (below_step HB.out hb)
  clear hb
  generalize hgz : wS.heap.size = gz at z ⊢
  change Aside0 (Kd.V k33 33 (wS.alloc (Obj.cells #[Value.int IntKind.i64 0, Value.int IntKind.i64 0, Value.string { data := #[] }] 33)) 0 (fun _ => True) (.slice (some ⟨gz, 0, none⟩) r0.length r0.length) r0) at z
  generalize (wS.alloc (Obj.cells #[Value.int IntKind.i64 0, Value.int IntKind.i64 0, Value.string { data := #[] }] 33)) = W2 at z D L HB ⊢
  clear hgz
  obtain ⟨Az, hAz⟩ : ∃ A : Option Addr, A = some ⟨gz, 0, none⟩ := ⟨_, rfl⟩
  obtain ⟨cz, hcz⟩ : ∃ c : Nat, c = r0.length := ⟨_, rfl⟩
  rw [← hAz] at z
  replace z : Aside0 (Kd.V k33 33 W2 0 (fun _ => True) (.slice Az r0.length cz) r0) := by rw [hcz]; exact z
  refine (cordonlaw11_one.calls 1 r1 _ one1).mono ?_
  rintro e wa ⟨va, rfl, ho, hb⟩
  replace L := Aside0.mk (Kd.V_below L.out hb)
  replace D := Aside0.mk (Kd.V_below D.out hb)
  replace z := Aside0.mk (Kd.V_below z.out hb)
  replace HB := Aside0.mk (below_step HB.out hb)
  clear hb
  have a := Aside0.mk (Kd.R_V (base' := 0) ho)
  clear ho
  obtain ⟨Aa, ca, ea, _, _⟩ := a.out
  subst ea
  go_wp2_with fail
  refine (cordonlaw11_one.calls 2 r2 _ one2).mono ?_
  rintro e wb ⟨vb, rfl, ho, hb⟩
  replace L := Aside0.mk (Kd.V_below L.out hb)
  replace D := Aside0.mk (Kd.V_below D.out hb)
  replace z := Aside0.mk (Kd.V_below z.out hb)
  replace a := Aside0.mk (Kd.V_below a.out hb)
  replace HB := Aside0.mk (below_step HB.out hb)
  clear hb
  have b := Aside0.mk (Kd.R_V (base' := 0) ho)
  clear ho
  obtain ⟨Ab, cb, eb, _, _⟩ := b.out
  subst eb
  subst hAz
  subst hcz
  go_wp2_with fail
  have Q := Aside0.mk (V_lit (Kd.slice 33 k33) 22 (W := wb) (xs := [r0, r1, r2]) (inner := [.slice (some ⟨gz, 0, none⟩) r0.length r0.length, .slice Aa r1.length ca, .slice Ab r2.length cb]) (Reps.one (show Kd.FK (Kd.slice 33 k33) _ (fun _ => True) r0 [.slice (some ⟨gz, 0, none⟩) r0.length r0.length] from Kd.FK_slice_mk (Kd.V_reads' z.out).2.1 (Kd.V_F z.out)) (Reps.one (show Kd.FK (Kd.slice 33 k33) _ (fun _ => True) r1 [.slice Aa r1.length ca] from Kd.FK_slice_mk (Kd.V_reads' a.out).2.1 (Kd.V_F a.out)) (Reps.one (show Kd.FK (Kd.slice 33 k33) _ (fun _ => True) r2 [.slice Ab r2.length cb] from Kd.FK_slice_mk (Kd.V_reads' b.out).2.1 (Kd.V_F b.out)) (Reps.none _ _)))) (by simp))
  have D2 := Aside0.mk (Kd.V_alloc D.out (.cells [.slice (some ⟨gz, 0, none⟩) r0.length r0.length, .slice Aa r1.length ca, .slice Ab r2.length cb].toArray 22))
  refine (cordonref11_Same.calls 100 AD cD [r0, r1, r2] _ _ [r0, r1, r2] true _ (Kd.V_reads' D2.out).2.2 (Kd.V_reads' D2.out).2.1 (Kd.V_reads' Q.out).2.2 (Kd.V_reads' Q.out).2.1 ex_same2).mono ?_
  rintro e w7 ⟨rfl, nd, rfl⟩
  have hb := pw_below_drewN (below_alloc (Below.refl wb.heap.size wb) (.cells [.slice (some ⟨gz, 0, none⟩) r0.length r0.length, .slice Aa r1.length ca, .slice Ab r2.length cb].toArray 22)) nd
  clear Q D2
  clear D a b z
  replace L := Aside0.mk (Kd.V_below L.out hb)
  replace HB := Aside0.mk (below_step HB.out hb)
  clear hb
  generalize ((wb.alloc (.cells [.slice (some ⟨gz, 0, none⟩) r0.length r0.length, .slice Aa r1.length ca, .slice Ab r2.length cb].toArray 22)).drewN nd) = W3 at L HB ⊢
  go_wp2_with fail
  refine (Groups_calls (fun _ => True) AL cL [r2, r1, r0] W3 L.out (by simp) (by simp [r0, r1, r2]) (fun r hr => by simp only [List.mem_cons, List.not_mem_nil, or_false] at hr; rcases hr with rfl | rfl | rfl <;> exact (by decide +kernel))).mono ?_
  rintro e wG ⟨vG, rfl, ho, hb⟩
  replace HB := Aside0.mk (below_step HB.out hb)
  obtain ⟨AG, cG, eG⟩ := Kd.S_slice ho
  rw [ex_group] at eG
  subst eG
  clear hb ho L
  go_wp2
  go_ret
  exact ⟨rfl, HB.out⟩
end Go.Proofs.Ythghflgmeepnlaa.Pa
end
section
namespace Go.Proofs.Ythghflgmeepnlaa.Pa
open Go.RowKit Go.Proofs.YthghflgmeepnlaaW.PrintWords Go.Proofs.YthghflgmeepnlaaW.PrintLast Go.Proofs.YthghflgmeepnlaaW.PrintMore
open Go.Maps
set_option linter.unusedVariables false
set_option linter.unusedSimpArgs false
end Go.Proofs.Ythghflgmeepnlaa.Pa
end
section
namespace Go.Proofs.Ythghflgmeepnlaa.Pa
open Go.RowKit Go.Proofs.YthghflgmeepnlaaW.PrintWords Go.Proofs.YthghflgmeepnlaaW.PrintLast Go.Proofs.YthghflgmeepnlaaW.PrintMore
set_option linter.unusedVariables false
set_option linter.unusedSimpArgs false
end Go.Proofs.Ythghflgmeepnlaa.Pa
end
section
namespace Go.Proofs.Ythghflgmeepnlaa.Pa
open Go.RowKit Go.Proofs.YthghflgmeepnlaaW.PrintWords Go.Proofs.YthghflgmeepnlaaW.PrintLast Go.Proofs.YthghflgmeepnlaaW.PrintMore
set_option linter.unusedVariables false
set_option linter.unusedSimpArgs false
theorem C_V {w : World} {A : Option Addr} {c : Nat} {l : List (List S33)} (h : Kd.C (Kd.slice 33 k33) w A l.length l) (hc : l.length ≤ c) : Kd.V (Kd.slice 33 k33) 22 w 0 (fun _ => True) (.slice A l.length c) l :=
  Kd.V_mono (Kd.V_mk hc (Kd.C_F (Kd.heap_slice 33 k33_heap) h)) (fun _ _ => trivial)
structure Fine (l : List (List S33)) : Prop where
  len : l.length < 1000000000
  good : ∀ r ∈ l, gR r
theorem Fine.row {l : List (List S33)} (h : Fine l) : ∀ r ∈ l, r.length ≤ 9223372036854775807 := fun r hr => by have := (h.good r hr).1; omega
theorem Fine.max {l : List (List S33)} (h : Fine l) : ∀ r ∈ l, (bytesOfRow r).size ≤ maxLen := fun r hr => max_ok (h.good r hr)
theorem gL_fine {l : List (List S33)} (h : gL l) : Fine l := ⟨by have := h.1; omega, h.2⟩
/-- Few's contract at what is read. -/
theorem Few_calls {ls : List (List (List S33))} {r : Bool} {k : Nat} (h : cordonlaw11_Few.f k ls = some r) {W : World} {b : Nat} {ok : Nat → Prop} {A : Option Addr} {c : Nat} (h1 : Kd.V (Kd.slice 22 (Kd.slice 33 k33)) 58 W b ok (.slice A ls.length c) ls) :
    Calls Try.prog 54 #[.slice A ls.length c] W fun e w' => e = .returned (.bool r) ∧ Below W.heap.size W w' :=
  cordonlaw11_Few.calls k A c ls r W (Kd.V_reads' h1).2.2 (Kd.V_reads' h1).2.1 h
end Go.Proofs.Ythghflgmeepnlaa.Pa
namespace Go.Proofs.Ythghflgmeepnlaa.Pure
open Go.RowKit Go.Proofs.Ythghflgmeepnlaa.Pa
theorem RowsSets (l0 : List (List S33)) (h0 : l0.length ≤ maxLen) (g0 : ∀ x ∈ l0, x.length ≤ maxLen ∧ ∀ y ∈ x, okv y) (l1 : List (List S33)) (h1 : l1.length ≤ maxLen) (g1 : ∀ x ∈ l1, x.length ≤ maxLen ∧ ∀ y ∈ x, okv y) :
    ∃ k r, cordonlaw11_Few.f k [l0, l1] = some r ∧ (r = true → ∀ l ∈ [l0, l1], gL l) := by
  have hm : maxLen = 9223372036854775807 := rfl
  refine few11 [l0, l1] (by simp) (fun l hl => ?_)
  simp only [List.mem_cons, List.not_mem_nil, or_false] at hl
  rcases hl with rfl | rfl
  · exact ⟨by omega, fun r hr => ⟨by have := (g0 r hr).1; omega, (g0 r hr).2⟩⟩
  · exact ⟨by omega, fun r hr => ⟨by have := (g1 r hr).1; omega, (g1 r hr).2⟩⟩
end Go.Proofs.Ythghflgmeepnlaa.Pure
end
section
namespace Go.Proofs.Ythghflgmeepnlaa.Pa
open Go.RowKit Go.Proofs.YthghflgmeepnlaaW.PrintWords Go.Proofs.YthghflgmeepnlaaW.PrintLast Go.Proofs.YthghflgmeepnlaaW.PrintMore
set_option linter.unusedVariables false
set_option linter.unusedSimpArgs false
end Go.Proofs.Ythghflgmeepnlaa.Pa
end
section
namespace Go.Proofs.Ythghflgmeepnlaa.Pa
open Go.RowKit Go.Proofs.YthghflgmeepnlaaW.PrintWords Go.Proofs.YthghflgmeepnlaaW.PrintLast Go.Proofs.YthghflgmeepnlaaW.PrintMore
set_option linter.unusedVariables false
set_option linter.unusedSimpArgs false
theorem row_at {w : World} {l0 : List (List S33)} {b c0 : Nat} {A0 : Option Addr} (hV : Kd.V (Kd.slice 33 k33) 22 w b (fun _ => True) (.slice A0 l0.length c0) l0) (i : Nat) (c2 : (i : Int) < (l0.length : Int)) :
    ∃ (ad : Addr) (A1 : Option Addr) (c1 : Nat), A0 = some ad ∧ w.cell? (ad.add i) = some (.slice A1 (rd_L4 l0 (i : Int)).length c1) ∧ Kd.V k33 33 w 0 (fun _ => True) (.slice A1 (rd_L4 l0 (i : Int)).length c1) (rd_L4 l0 (i : Int)) := by
  obtain ⟨ad, A1, c1, e1, hx1, hl1, hi1⟩ := at_L4 (Kd.V_reads' hV).2.2 (i : Int) (by omega) c2
  simp only [Int.toNat_natCast] at hx1
  exact ⟨ad, A1, c1, e1, hx1, Kd.V_mono (Kd.V_mk hl1 (Kd.C_F k33_heap hi1)) (fun _ _ => trivial)⟩
end Go.Proofs.Ythghflgmeepnlaa.Pa
namespace Go.Proofs.Ythghflgmeepnlaa.Pure
open Go.RowKit Go.Proofs.Ythghflgmeepnlaa.Pa
end Go.Proofs.Ythghflgmeepnlaa.Pure
end
section
namespace Go.Proofs.Ythghflgmeepnlaa.Pa
open Go.RowKit Go.Proofs.YthghflgmeepnlaaW.PrintWords Go.Proofs.YthghflgmeepnlaaW.PrintLast Go.Proofs.YthghflgmeepnlaaW.PrintMore
open Go.Maps
set_option linter.unusedVariables false
set_option linter.unusedSimpArgs false
theorem num_at {w : World} {A : Option Addr} {n c b : Nat} {ok : Nat → Prop} {zs : List Nat} (h : Kd.V (Kd.int .i64) 3 w b ok (.slice A n c) (zI zs)) (t : Nat) (ht : (t : Int) < (n : Int)) : ∃ ad, A = some ad ∧ w.cell? (ad.add t) = some (.int .i64 ((zs.getD t 0 : Nat) : Int)) := by
  obtain ⟨hn, _, hC⟩ := Kd.V_reads' h
  obtain ⟨ad, cs, e, _, hK, hc⟩ := Kd.C_get hC (0 : Int) (t : Int) (by omega) (by rw [← hn]; exact ht)
  refine ⟨ad, e, ?_⟩
  have hK' : cs = [.int .i64 ((zI zs).getD (t : Int).toNat 0)] := hK
  have h1 := hc 0 (.int .i64 ((zI zs).getD (t : Int).toNat 0)) (by rw [hK']; rfl)
  rw [Int.toNat_natCast, show t * (Kd.int .i64).sz + 0 = t by show t * 1 + 0 = t; omega] at h1
  rw [h1]
  congr 2
  simp only [List.getD_eq_getElem?_getD, List.getElem?_map]
  cases zs[t]? <;> rfl
set_option maxHeartbeats 8000000 in
set_option maxRecDepth 1000000 in
theorem Match_calls (A0 : Option Addr) (c0 : Nat) (a : List (List S33)) (A1 : Option Addr) (c1 : Nat) (b : List (List S33)) (i j : Int) (w : World)
    (h0 : Kd.V (Kd.slice 33 k33) 22 w 0 (fun _ => True) (.slice A0 a.length c0) a) (h1 : Kd.V (Kd.slice 33 k33) 22 w 0 (fun _ => True) (.slice A1 b.length c1) b) (ga : gL a) (gb : gL b) :
    Calls Try.prog 69 #[.slice A0 a.length c0, .slice A1 b.length c1, .int .i64 i, .int .i64 j] w fun e w' => ∃ v0_ : Value, e = .returned (v0_) ∧ Kd.V k74 74 w' 0 (fun _ => True) v0_ (matchL a b i j a.length) ∧ Below w.heap.size w w' := by
  have hmm := @run_makeMap Try.prog
  obtain ⟨i0, hi, hz0, hz1, hz2⟩ := info_parts info3
  have A := Aside0.mk h0
  have B := Aside0.mk h1
  have GA := Aside0.mk ga
  have GB := Aside0.mk gb
  have HB0 := Aside0.mk (Below.refl w.heap.size w)
  have HI0 := Aside0.mk (⟨hi, hz0, hz1, hz2⟩ : Try.prog.info? 3 = some i0 ∧ i0.zero = some (.int .i64 0) ∧ i0.size = 1 ∧ i0.bytes = 8)
  clear h0 h1 ga gb hi hz0 hz1 hz2
  go_enter Try.func69, Try.ntmps69
  go_wp2
  go_loopg [24] b.length (fun kq v24 w' => ∃ (m q : Nat), v24 = .int .i64 (m : Int) ∧ Aside0 (m + kq = b.length ∧ q ≤ m) ∧ Aside0 (Grp w' w.heap.size q (grp b j m)) ∧ Aside0 (Below w.heap.size w w'))
  case atStart => exact ⟨0, 0, rfl, ⟨by simp⟩, ⟨Grp.start w (fun s => rfl)⟩, ⟨below_alloc HB0.out _⟩⟩
  case round =>
    clear HB0 hmm
    obtain ⟨m, q, rfl, HM, HG, HB⟩ := hrel
    by_cases cb : (m : Int) < (b.length : Int)
    · have cbb : decide ((m : Int) < (b.length : Int)) = true := decide_eq_true cb
      have p0 : (0 : Int) ≤ m := by omega
      obtain ⟨k1, rfl⟩ : ∃ k1, gk = k1 + 1 := ⟨gk - 1, by have := HM.out; omega⟩
      have HMB := Aside0.mk (show m < 40 by have := GB.out.1; omega)
      have HW := Aside0.mk (show wrap64 ((m : Int) + 1) = ((m + 1 : Nat) : Int) from wrapN m (by have := HMB.out; omega))
      have HM' := Aside0.mk (show m + 1 + k1 = b.length ∧ q ≤ m by have := HM.out; omega)
      have B1 := Aside0.mk (Kd.V_below B.out HB.out)
      obtain ⟨ad, Ar, cr, rfl, hx1, hrv⟩ := row_at B1.out m cb
      have hmem := rd_in (l := b) (i := m) (by omega)
      have GR := Aside0.mk (GB.out.2 _ hmem)
      obtain ⟨r, hr⟩ : ∃ r, r = rd_L4 b (m : Int) := ⟨_, rfl⟩
      rw [← hr] at hx1 hrv GR
      have R := Aside0.mk hrv
      have HR := Aside0.mk hr
      clear hr hmem hrv HM
      cases hcell : cellOf r j with
      | none =>
        have HCA := Aside0.mk (cell_none hcell GR.out R.out)
        have HCN := Aside0.mk hcell
        clear hcell
        go_wp2_with fail
        refine HCA.out.mono ?_
        rintro e w1 ⟨rfl, hb⟩
        have HG1 := Aside0.mk (Grp.congr (HG.out.below hb) (fun s => (grp_none (by rw [← HR.out]; exact HCN.out) s).symm))
        have HB1 := Aside0.mk (below_step HB.out hb)
        clear hb HCA
        go_wp2_with fail
        go_roundg k1
        case measure => omega
        case rel => exact ⟨m + 1, q, by rw [HW.out], ⟨by have := HM'.out; omega⟩, HG1, HB1⟩
      | some t =>
        have HCA := Aside0.mk (cell_some hcell GR.out R.out)
        have HCN := Aside0.mk hcell
        have hkey : keyOf Try.prog 9 (.string t) = some (.string (ky t)) := WideMaps.keyOf_string_mk Try.underlying9 (cell_max hcell GR.out)
        have HQ := Aside0.mk (show q < 40 by have := HM'.out; have := HMB.out; omega)
        clear hcell
        go_wp2_with fail
        refine HCA.out.mono ?_
        rintro e w1 ⟨rfl, hb⟩
        obtain ⟨D, hown, hIs, hit⟩ := (HG.out.below hb).own
        have HB1 := Aside0.mk (below_step HB.out hb)
        have HIS := Aside0.mk (⟨hIs, hit⟩ : IsMap D ∧ ∀ s : List UInt8, itemsU (D.atKey (.string s) .nil) = Go.ChangeShapes.lits .i64 (zI (grp b j m s)))
        have HGL := Aside0.mk (HG.out.below hb).lt
        clear hb HCA hIs hit HG
        go_wp2_with (first
          | (at_lookup; refine wpList_lookup_groups _ rfl _ _ 108 rfl 9 23 3 .i64 law9 Try.underlying108 (zero23m _) (w.heap.size + 1) w.heap.size q _ rfl hown (by unfold maxLen; have := HQ.out; omega) _ _ rfl hkey ?_; intro v zs hat hoi hzl hback; have HAT := Aside0.mk hat; have HOI := Aside0.mk hoi; have HZL := Aside0.mk hzl; have HBK := Aside0.mk hback; clear hat hoi hzl hback hown)
          | (at_builtin; refine wpList_append_own_at _ rfl _ _ 23 rfl (w.heap.size + 1) 3 i0 (.int .i64 0) 1 8 Try.underlying23 HI0.out.1 HI0.out.2.1 HI0.out.2.2.1 HI0.out.2.2.2 rfl (by decide) _ _ _ rfl (HOI.out.1.alloc _) ⟨w1.heap.size, 0, none⟩ 1 1 [.int .i64 (m : Int)] rfl rfl (cell_one_new _ _ _) (ints_oneCell .i64 [(m : Int)]) (by unfold maxLen; have := HZL.out; have := HQ.out; omega) (by have := HZL.out; have := HQ.out; omega) (by have := HGL.out; simp; omega) ?_; intro v' w2 hown' hgrow hnil hloc; have HOW := Aside0.mk hown'; have HGR := Aside0.mk hgrow; have HLOC := Aside0.mk hloc; clear hown' hgrow hnil hloc)
          | (at_mapUpdate; refine wpList_mapUpdate_back _ rfl _ _ _ 108 rfl HBK.out rfl rfl rfl ((World.grownBy_alloc _ _ _).trans HGR.out) (HOI.out.appended HOW.out (WalkArith.wf_i64 (by have := HMB.out; omega))) (by have := HZL.out; simp; omega) (HLOC.out.imp id (fun h => ⟨_, h, by simp⟩)) ?_; intro w3 hown2 hgrow2; have HO2 := Aside0.mk hown2; have HG2 := Aside0.mk hgrow2; clear hown2 hgrow2))
        have hall := (World.grownBy_alloc w1 _ _).trans HGR.out
        have hp := grp_put HIS.out.1 HIS.out.2 HAT.out HOI.out (HOI.out.appended HOW.out (WalkArith.wf_i64 (by have := HMB.out; omega)))
        have HG3 := Aside0.mk (Grp.congr (Grp.mk ⟨_, HO2.out, hp.1, hp.2⟩) (fun s => (grp_some (by rw [← HR.out]; exact HCN.out) s).symm))
        have HB3 := Aside0.mk (HB1.out.groups HOI.out hall HG2.out HB1.out.size (Nat.le_succ _) (Nat.le_refl _))
        go_roundg k1
        case measure => omega
        case rel => exact ⟨m + 1, q + 1, by rw [HW.out], ⟨by have := HM'.out; omega⟩, HG3, HB3⟩
    · have cbb : decide ((m : Int) < (b.length : Int)) = false := decide_eq_false cb
      have em : m = b.length := by have := HM.out; omega
      subst em
      have HQ := Aside0.mk (show q < maxLen by unfold maxLen; have := HM.out; have := GB.out.1; omega)
      have A1 := Aside0.mk (Kd.V_below A.out HB.out)
      have HBW := Aside0.mk HB.out
      clear HM
      obtain ⟨wm, rfl⟩ : ∃ wm, wr = wm := ⟨_, rfl⟩
      have HQ0 := Aside0.mk (Below.refl wr.heap.size wr)
      go_wp2_with fail
      obtain ⟨wm, rfl⟩ : ∃ wm, wm = wr := ⟨_, rfl⟩
      go_loopg [14, 47] a.length (fun kq v14 v47 w' => ∃ (k : Nat) (x14 : List (Int × Int)), v47 = .int .i64 (k : Int) ∧ Aside0 (k + kq = a.length) ∧ Aside0 (x14 = matchL a b i j k) ∧ Aside0 (Kd.N k74 74 w' wm.heap.size (fun k_ => wm.heap.size ≤ k_) v14 x14) ∧ Aside0 (Below wm.heap.size wm w'))
      case atStart => exact ⟨0, [], rfl, ⟨by simp⟩, ⟨rfl⟩, ⟨Kd.N_nil _ _ _ _ _⟩, HQ0⟩
      case round =>
        clear HQ0
        obtain ⟨k, x14, rfl, HK, HX, HN, HP⟩ := hrel
        by_cases ca : (k : Int) < (a.length : Int)
        · have cab : decide ((k : Int) < (a.length : Int)) = true := decide_eq_true ca
          have p0 : (0 : Int) ≤ k := by omega
          obtain ⟨k1, rfl⟩ : ∃ k1, gk = k1 + 1 := ⟨gk - 1, by have := HK.out; omega⟩
          have HKB := Aside0.mk (show k < 40 by have := GA.out.1; omega)
          have HW := Aside0.mk (show wrap64 ((k : Int) + 1) = ((k + 1 : Nat) : Int) from wrapN k (by have := HKB.out; omega))
          have HK' := Aside0.mk (show k + 1 + k1 = a.length by have := HK.out; omega)
          have A2 := Aside0.mk (Kd.V_below A1.out HP.out)
          obtain ⟨ad, Ar, cr, rfl, hx1, hrv⟩ := row_at A2.out k ca
          have hmem := rd_in (l := a) (i := k) (by omega)
          have GR := Aside0.mk (GA.out.2 _ hmem)
          obtain ⟨r, hr⟩ : ∃ r, r = rd_L4 a (k : Int) := ⟨_, rfl⟩
          rw [← hr] at hx1 hrv GR
          have R := Aside0.mk hrv
          have HML := Aside0.mk (show matchL a b i j (k + 1) = matchL a b i j k ++ prs b j r i k by rw [hr]; rfl)
          obtain ⟨Ao, co, eo⟩ := Kd.N_slice HN.out
          subst eo
          clear hr hmem hrv HK
          cases hcell : cellOf r i with
          | none =>
            have HCA := Aside0.mk (cell_none hcell GR.out R.out)
            have HX' := Aside0.mk (show x14 = matchL a b i j (k + 1) by rw [HML.out, HX.out]; unfold prs; rw [hcell]; simp)
            clear hcell
            go_wp2_with fail
            refine HCA.out.mono ?_
            rintro e w1 ⟨rfl, hb⟩
            have HN1 := Aside0.mk (Kd.N_below HN.out hb)
            have HP1 := Aside0.mk (below_step HP.out hb)
            clear hb HCA
            go_wp2_with fail
            go_roundg k1
            case measure => omega
            case rel => exact ⟨k + 1, x14, by rw [HW.out], HK', HX', HN1, HP1⟩
          | some t =>
            have HCA := Aside0.mk (cell_some hcell GR.out R.out)
            have hkey : keyOf Try.prog 9 (.string t) = some (.string (ky t)) := WideMaps.keyOf_string_mk Try.underlying9 (cell_max hcell GR.out)
            obtain ⟨zs, hzs⟩ : ∃ zs, zs = grp b j b.length (ky t) := ⟨_, rfl⟩
            have HPR := Aside0.mk (show prs b j r i k = zs.map (pr k) by unfold prs; rw [hcell, hzs])
            have HZL := Aside0.mk (show zs.length ≤ 40 by have := (grp_le b j b.length (ky t)).1; have := GB.out.1; rw [hzs]; omega)
            have HZS := Aside0.mk hzs
            have HLM := Aside0.mk (show (matchL a b i j k).length ≤ 1600 by
              have h1 := match_len a b i j k
              have h2 := Nat.mul_le_mul (Nat.le_of_lt HKB.out) GB.out.1
              omega)
            clear hcell hzs
            go_wp2_with fail
            refine HCA.out.mono ?_
            rintro e w1 ⟨rfl, hb⟩
            have HN1 := Aside0.mk (Kd.N_below HN.out hb)
            have HP1 := Aside0.mk (below_step HP.out hb)
            clear hb HCA HN HP
            go_wp2_with (at_lookup; refine wpList_lookup_grp _ rfl _ _ rfl rfl HG.out HP1.out HQ.out t rfl hkey ?_; rw [← HZS.out]; intro Ag cg hv; have HV1 := Aside0.mk hv; clear hv)
            go_loopg [14, 64] zs.length (fun kq v14 v64 w' => ∃ (t : Nat) (x : List (Int × Int)), v64 = .int .i64 (t : Int) ∧ Aside0 (t + kq = zs.length) ∧ Aside0 (x = matchL a b i j k ++ (zs.take t).map (pr k)) ∧ Aside0 (Kd.N k74 74 w' wm.heap.size (fun k_ => wm.heap.size ≤ k_) v14 x) ∧ Aside0 (Below wm.heap.size wm w') ∧ Aside0 (Kd.V (Kd.int .i64) 3 w' 0 (fun k => k < wm.heap.size) (.slice Ag zs.length cg) (zI zs)))
            case atStart => exact ⟨0, x14, rfl, ⟨by simp⟩, ⟨by rw [HX.out]; simp⟩, HN1, HP1, HV1⟩
            case round =>
              clear HN1 HP1 HV1 HX
              obtain ⟨t2, x, rfl, HT, HX, HN, HP, HV⟩ := hrel
              by_cases ct : (t2 : Int) < (zs.length : Int)
              · have ctb : decide ((t2 : Int) < (zs.length : Int)) = true := decide_eq_true ct
                have p1 : (0 : Int) ≤ t2 := by omega
                obtain ⟨k2, rfl⟩ : ∃ k2, gk = k2 + 1 := ⟨gk - 1, by have := HT.out; omega⟩
                have HWT := Aside0.mk (show wrap64 ((t2 : Int) + 1) = ((t2 + 1 : Nat) : Int) from wrapN t2 (by have := HZL.out; omega))
                have HT' := Aside0.mk (show t2 + 1 + k2 = zs.length by have := HT.out; omega)
                obtain ⟨n, hn⟩ : ∃ n, n = zs.getD t2 0 := ⟨_, rfl⟩
                obtain ⟨adg, eg, hxg⟩ := num_at HV.out t2 ct
                subst eg
                rw [← hn] at hxg
                have HX' := Aside0.mk (show x ++ [pr k n] = matchL a b i j k ++ (zs.take (t2 + 1)).map (pr k) by
                  have hlt : t2 < zs.length := by omega
                  rw [HX.out, List.take_add_one, List.getElem?_eq_getElem hlt, hn, List.getD_eq_getElem?_getD, List.getElem?_eq_getElem hlt, List.map_append, ← List.append_assoc]
                  rfl)
                have HXL := Aside0.mk (show x.length ≤ 1640 by
                  rw [HX.out, List.length_append, List.length_map, List.length_take]
                  have := HLM.out
                  have := HZL.out
                  omega)
                obtain ⟨Ao, co, eo⟩ := Kd.N_slice HN.out
                subst eo
                clear hn HT
                go_wp2_with ((with_reducible refine gate_builtin (b := .append) (xs := #[.tmp 68, .tmp 72]) rfl ?_); at_builtin; refine Kd.N_append k74 (w0 := wm) wm.heap.size rfl (.tmp 68) (.tmp 72) 72 74 (.agg #[.int .i64 0, .int .i64 0]) 16 rfl Try.underlying72 info74 rfl (by decide) (by omega) (.slice Ao x.length co) x (pr k n) [.int .i64 (k : Int), .int .i64 (n : Int)] (fun k_ => wm.heap.size ≤ k_) (fun _ => False) rfl rfl ?aP ?aK ?aF ?aO ?aB ?aS ?aL ?_; (case aP => exact k74_mkF _ _ (pr k n)); (case aK => exact (fun _ h => h.elim)); (case aB => exact HP.out); (case aF => exact (fun k hk => Nat.le_trans (below_size HP.out) hk)); (case aO => exact HN.out); (case aS => exact below_size HP.out); (case aL => have := HXL.out; omega); intro v9 w9 ho hb hg hat; have HN9 := Aside0.mk ho; have HP9 := Aside0.mk hb; have HV9 := Aside0.mk (Kd.V_grown HV.out hg (fun k hk he => by have h1 := N_base HN.out k he.symm; omega)); clear ho hb hg hat HN HP HV)
                go_roundg k2
                case measure => omega
                case rel => exact ⟨t2 + 1, x ++ [pr k n], by rw [HWT.out], HT', HX', HN9, HP9, HV9⟩
              · have ctb : decide ((t2 : Int) < (zs.length : Int)) = false := decide_eq_false ct
                have HX' := Aside0.mk (show x = matchL a b i j (k + 1) by
                  rw [HX.out, HML.out, HPR.out, List.take_of_length_le (by have := HT.out; omega)])
                go_wp2_with fail
                go_roundg k1
                case measure => omega
                case rel => exact ⟨k + 1, x, by rw [HW.out], HK', HX', HN, HP⟩
        · have cab : decide ((k : Int) < (a.length : Int)) = false := decide_eq_false ca
          have ek : k = a.length := by have := HK.out; omega
          subst ek
          have HF := Aside0.mk (Kd.V_mono (ok' := fun _ => True) (Kd.N_V (base' := 0) HN.out) (fun _ _ => trivial))
          rw [HX.out] at HF
          have HBF := Aside0.mk (below_step HBW.out HP.out)
          clear HN
          go_wp2_with fail
          go_ret
          exact ⟨_, rfl, HF.out, HBF.out⟩
end Go.Proofs.Ythghflgmeepnlaa.Pa
end
section
namespace Go.Proofs.Ythghflgmeepnlaa.Pa
open Go.RowKit Go.Proofs.YthghflgmeepnlaaW.PrintWords Go.Proofs.YthghflgmeepnlaaW.PrintLast Go.Proofs.YthghflgmeepnlaaW.PrintMore
attribute [local go_sem high] eqA33
set_option linter.unusedVariables false
set_option linter.unusedSimpArgs false
/-- The pairs of a row with the first n rows. -/
def hits (b : List (List S33)) (r : List S33) (i j : Int) (k n : Nat) : List (Int × Int) := ((List.range n).filter (fun (m : Nat) => hit r (rd_L4 b (m : Int)) i j)).map (pr k)
theorem hits_step (b : List (List S33)) (r : List S33) (i j : Int) (k n : Nat) : hits b r i j k (n + 1) = hits b r i j k n ++ (if hit r (rd_L4 b (n : Int)) i j = true then [pr k n] else []) := by
  unfold hits
  rw [List.range_succ, List.filter_append, List.map_append]
  by_cases h : hit r (rd_L4 b (n : Int)) i j = true <;> simp [h]
theorem hits_len (b : List (List S33)) (r : List S33) (i j : Int) (k n : Nat) : (hits b r i j k n).length ≤ n := by
  unfold hits
  rw [List.length_map]
  have := List.length_filter_le (fun (m : Nat) => hit r (rd_L4 b (m : Int)) i j) (List.range n)
  simpa using this
theorem hit_no {r s : List S33} {i j : Int} (h : ¬ (0 ≤ i ∧ i < (r.length : Int) ∧ 0 ≤ j ∧ j < (s.length : Int) ∧ (rd_T33 r i).f0 ≠ 0 ∧ ordS (rd_T33 r i) (rd_T33 s j) = 0)) : hit r s i j = false := by
  unfold hit
  rw [Bool.eq_false_iff]
  simp only [Bool.and_eq_true, decide_eq_true_eq, ne_eq]
  rintro ⟨⟨⟨⟨h1, h2⟩, h3, h4⟩, h5⟩, h6⟩
  exact h ⟨h1, h2, h3, h4, h5, h6⟩
theorem hit_yes {r s : List S33} {i j : Int} (h1 : 0 ≤ i) (h2 : i < (r.length : Int)) (h3 : 0 ≤ j) (h4 : j < (s.length : Int)) (h5 : (rd_T33 r i).f0 ≠ 0) (h6 : ordS (rd_T33 r i) (rd_T33 s j) = 0) : hit r s i j = true := by
  unfold hit
  simp only [Bool.and_eq_true, decide_eq_true_eq]
  exact ⟨⟨⟨⟨h1, h2⟩, h3, h4⟩, h5⟩, h6⟩
theorem eq_parts (x y : S33) : ((x.f0 == y.f0) && ((x.f1 == y.f1) && (x.f2.toList == y.f2.toList))) = decide (ordS x y = 0) := by
  rw [Bool.eq_iff_iff]
  have := lin_val.zero x y
  unfold sameV at this
  simp only [Bool.and_eq_true, beq_iff_eq, decide_eq_true_eq]
  exact this.symm
set_option maxHeartbeats 16000000 in
set_option maxRecDepth 1000000 in
theorem RMatch_calls (A0 : Option Addr) (c0 : Nat) (a : List (List S33)) (A1 : Option Addr) (c1 : Nat) (b : List (List S33)) (i j : Int) (w : World)
    (h0 : Kd.V (Kd.slice 33 k33) 22 w 0 (fun _ => True) (.slice A0 a.length c0) a) (h1 : Kd.V (Kd.slice 33 k33) 22 w 0 (fun _ => True) (.slice A1 b.length c1) b) (ga : gL a) (gb : gL b) :
    Calls Try.prog 70 #[.slice A0 a.length c0, .slice A1 b.length c1, .int .i64 i, .int .i64 j] w fun e w' => ∃ v0_ : Value, e = .returned (v0_) ∧ Kd.V k74 74 w' 0 (fun _ => True) v0_ (matchL a b i j a.length) ∧ Below w.heap.size w w' := by
  have hu33 := Try.underlying33
  have A := Aside0.mk h0
  have B := Aside0.mk h1
  have GA := Aside0.mk ga
  have GB := Aside0.mk gb
  have HB0 := Aside0.mk (Below.refl w.heap.size w)
  clear h0 h1 ga gb
  go_enter Try.func70, Try.ntmps70
  go_wp2
  go_loopg [9, 10] a.length (fun kq v9 v10 w' => ∃ (k : Nat) (x : List (Int × Int)), v10 = .int .i64 (k : Int) ∧ Aside0 (k + kq = a.length) ∧ Aside0 (x = matchL a b i j k) ∧ Aside0 (Kd.N k74 74 w' w.heap.size (fun k_ => w.heap.size ≤ k_) v9 x) ∧ Aside0 (Below w.heap.size w w'))
  case atStart => exact ⟨0, [], rfl, ⟨by simp⟩, ⟨rfl⟩, ⟨Kd.N_nil _ _ _ _ _⟩, HB0⟩
  case round =>
    clear HB0
    obtain ⟨k, x0, rfl, HK, HX0, HN0, HP0⟩ := hrel
    by_cases ca : (k : Int) < (a.length : Int)
    · have cab : decide ((k : Int) < (a.length : Int)) = true := decide_eq_true ca
      have p0 : (0 : Int) ≤ k := by omega
      obtain ⟨k1, rfl⟩ : ∃ k1, gk = k1 + 1 := ⟨gk - 1, by have := HK.out; omega⟩
      have HKB := Aside0.mk (show k < 40 by have := GA.out.1; omega)
      have HW := Aside0.mk (show wrap64 ((k : Int) + 1) = ((k + 1 : Nat) : Int) from wrapN k (by have := HKB.out; omega))
      have HK' := Aside0.mk (show k + 1 + k1 = a.length by have := HK.out; omega)
      have hmem := rd_in (l := a) (i := k) (by omega)
      obtain ⟨r, hr⟩ : ∃ r, r = rd_L4 a (k : Int) := ⟨_, rfl⟩
      rw [← hr] at hmem
      have GR := Aside0.mk (GA.out.2 _ hmem)
      have HML := Aside0.mk (show matchL a b i j (k + 1) = matchL a b i j k ++ hits b r i j k b.length by
        show matchL a b i j k ++ prs b j (rd_L4 a (k : Int)) i k = _
        rw [← hr, prs_hits GB.out.2 (GA.out.2 _ hmem) i j k]; rfl)
      have HLM := Aside0.mk (show (matchL a b i j k).length ≤ 1600 by
        have h1 := match_len a b i j k
        have h2 := Nat.mul_le_mul (Nat.le_of_lt HKB.out) GB.out.1
        omega)
      have HR := Aside0.mk hr
      have CA := Aside0.mk ca
      clear hr hmem HK
      go_wp2_with fail
      go_loopg [9, 11] b.length (fun kq v9 v11 w' => ∃ (n : Nat) (x : List (Int × Int)), v11 = .int .i64 (n : Int) ∧ Aside0 (n + kq = b.length) ∧ Aside0 (x = matchL a b i j k ++ hits b r i j k n) ∧ Aside0 (Kd.N k74 74 w' w.heap.size (fun k_ => w.heap.size ≤ k_) v9 x) ∧ Aside0 (Below w.heap.size w w'))
      case atStart => exact ⟨0, x0, rfl, ⟨by simp⟩, ⟨by rw [HX0.out]; simp [hits]⟩, HN0, HP0⟩
      case round =>
        clear HN0 HP0 HX0
        obtain ⟨n, x, rfl, HM, HX, HN, HP⟩ := hrel
        by_cases cb : (n : Int) < (b.length : Int)
        · have cbb : decide ((n : Int) < (b.length : Int)) = true := decide_eq_true cb
          have p1 : (0 : Int) ≤ n := by omega
          obtain ⟨k2, rfl⟩ : ∃ k2, gk = k2 + 1 := ⟨gk - 1, by have := HM.out; omega⟩
          have HWN := Aside0.mk (show wrap64 ((n : Int) + 1) = ((n + 1 : Nat) : Int) from wrapN n (by have := GB.out.1; omega))
          have HM' := Aside0.mk (show n + 1 + k2 = b.length by have := HM.out; omega)
          have HXL := Aside0.mk (show x.length ≤ 1640 by
            rw [HX.out, List.length_append]
            have := HLM.out
            have := hits_len b r i j k n
            have := GB.out.1
            omega)
          obtain ⟨ad, Ar, cr, eA, hx1, hv1⟩ := row_at (Kd.V_below A.out HP.out) k CA.out
          obtain ⟨bd, As, cs, eB, hx2, hv2⟩ := row_at (Kd.V_below B.out HP.out) n cb
          subst eA
          subst eB
          obtain ⟨s, hs⟩ : ∃ s, s = rd_L4 b (n : Int) := ⟨_, rfl⟩
          rw [← HR.out] at hx1 hv1
          rw [← hs] at hx2 hv2
          have HST := Aside0.mk (show hits b r i j k (n + 1) = hits b r i j k n ++ (if hit r s i j = true then [pr k n] else []) by rw [hs]; exact hits_step b r i j k n)
          have R := Aside0.mk hv1
          have S := Aside0.mk hv2
          obtain ⟨Ao, co, eo⟩ := Kd.N_slice HN.out
          subst eo
          clear hs hv1 hv2 HM
          by_cases d1 : 0 ≤ i
          · have d1b : decide (i ≥ 0) = true := decide_eq_true d1
            by_cases d2 : i < (r.length : Int)
            · have d2b : decide (i < (r.length : Int)) = true := decide_eq_true d2
              by_cases d3 : 0 ≤ j
              · have d3b : decide (j ≥ 0) = true := decide_eq_true d3
                by_cases d4 : j < (s.length : Int)
                · have d4b : decide (j < (s.length : Int)) = true := decide_eq_true d4
                  obtain ⟨ax, ex, hx3, hx4, hx5⟩ := at_T33 (Kd.V_reads' R.out).2.2 i d1 d2
                  obtain ⟨ay, ey, hy3, hy4, hy5⟩ := at_T33 (Kd.V_reads' S.out).2.2 j d3 d4
                  subst ex
                  subst ey
                  have HD := Aside0.mk (⟨d1, d2, d3, d4⟩ : 0 ≤ i ∧ i < (r.length : Int) ∧ 0 ≤ j ∧ j < (s.length : Int))
                  have d1c : decide (0 ≤ i) = true := decide_eq_true d1
                  have d3c : decide (0 ≤ j) = true := decide_eq_true d3
                  have d1e := eq_true d1
                  have d2e := eq_true d2
                  have d3e := eq_true d3
                  have d4e := eq_true d4
                  by_cases d5 : (rd_T33 r i).f0 = 0
                  · have d5b : ((rd_T33 r i).f0 == 0) = true := by rw [d5]; rfl
                    have d5c : ((rd_T33 r i).f0 != 0) = false := by rw [d5]; rfl
                    have HH := Aside0.mk (hit_no (r := r) (s := s) (i := i) (j := j) (fun q => q.2.2.2.2.1 d5))
                    have HX' := Aside0.mk (show x = matchL a b i j k ++ hits b r i j k (n + 1) by rw [HST.out, if_neg (by rw [HH.out]; simp), List.append_nil]; exact HX.out)
                    go_wp2_with fail
                    go_quiet (fail)
                    have HN1 := Aside0.mk (Kd.N_drewN HN.out nq)
                    have HP1 := Aside0.mk (pw_below_drewN HP.out nq)
                    clear HN HP hx1 hx2
                    generalize wr.drewN nq = W1 at HN1 HP1 ⊢
                    go_wp2_with fail
                    go_roundg k2
                    case measure => omega
                    case rel => exact ⟨n + 1, x, by rw [HWN.out], HM', HX', HN1, HP1⟩
                  · have d5b : ((rd_T33 r i).f0 == 0) = false := beq_eq_false_iff_ne.mpr d5
                    have d5c : ((rd_T33 r i).f0 != 0) = true := by simp [d5]
                    have HD5 := Aside0.mk d5
                    clear d5
                    have hep := eq_parts (rd_T33 r i) (rd_T33 s j)
                    by_cases d6 : ordS (rd_T33 r i) (rd_T33 s j) = 0
                    · rw [decide_eq_true d6] at hep
                      have HH := Aside0.mk (hit_yes HD.out.1 HD.out.2.1 HD.out.2.2.1 HD.out.2.2.2 HD5.out d6)
                      have HX' := Aside0.mk (show x ++ [pr k n] = matchL a b i j k ++ hits b r i j k (n + 1) by rw [HST.out, if_pos HH.out, HX.out, List.append_assoc])
                      clear d6
                      go_wp2_with fail
                      go_quiet (fail)
                      have HN1 := Aside0.mk (Kd.N_drewN HN.out nq)
                      have HP1 := Aside0.mk (pw_below_drewN HP.out nq)
                      clear HN HP hx1 hx2 hx3 hx4 hx5 hy3 hy4 hy5
                      generalize wr.drewN nq = W1 at HN1 HP1 ⊢
                      go_wp2_with ((with_reducible refine gate_builtin (b := .append) (xs := #[.tmp 76, .tmp 80]) rfl ?_); at_builtin; refine Kd.N_append k74 (w0 := w) w.heap.size rfl (.tmp 76) (.tmp 80) 72 74 (.agg #[.int .i64 0, .int .i64 0]) 16 rfl Try.underlying72 info74 rfl (by decide) (by omega) (.slice Ao x.length co) x (pr k n) [.int .i64 (k : Int), .int .i64 (n : Int)] (fun k_ => w.heap.size ≤ k_) (fun _ => False) rfl rfl ?aP ?aK ?aF ?aO ?aB ?aS ?aL ?_; (case aP => exact k74_mkF _ _ (pr k n)); (case aK => exact (fun _ h => h.elim)); (case aB => exact HP1.out); (case aF => exact (fun k hk => Nat.le_trans (below_size HP1.out) hk)); (case aO => exact HN1.out); (case aS => exact below_size HP1.out); (case aL => have := HXL.out; omega); intro v9 w9 ho hb hg hat; have HN9 := Aside0.mk ho; have HP9 := Aside0.mk hb; clear ho hb hg hat HN1 HP1)
                      go_roundg k2
                      case measure => omega
                      case rel => exact ⟨n + 1, x ++ [pr k n], by rw [HWN.out], HM', HX', HN9, HP9⟩
                    · rw [decide_eq_false d6] at hep
                      have HH := Aside0.mk (hit_no (r := r) (s := s) (i := i) (j := j) (fun q => d6 q.2.2.2.2.2))
                      have HX' := Aside0.mk (show x = matchL a b i j k ++ hits b r i j k (n + 1) by rw [HST.out, if_neg (by rw [HH.out]; simp), List.append_nil]; exact HX.out)
                      clear d6
                      go_wp2_with fail
                      go_quiet (fail)
                      have HN1 := Aside0.mk (Kd.N_drewN HN.out nq)
                      have HP1 := Aside0.mk (pw_below_drewN HP.out nq)
                      clear HN HP hx1 hx2
                      generalize wr.drewN nq = W1 at HN1 HP1 ⊢
                      go_wp2_with fail
                      go_roundg k2
                      case measure => omega
                      case rel => exact ⟨n + 1, x, by rw [HWN.out], HM', HX', HN1, HP1⟩
                · have d4b : decide (j < (s.length : Int)) = false := decide_eq_false d4
                  have HH := Aside0.mk (hit_no (r := r) (s := s) (i := i) (j := j) (fun q => d4 q.2.2.2.1))
                  have HX' := Aside0.mk (show x = matchL a b i j k ++ hits b r i j k (n + 1) by rw [HST.out, if_neg (by rw [HH.out]; simp), List.append_nil]; exact HX.out)
                  go_wp2_with fail
                  go_quiet (fail)
                  have HN1 := Aside0.mk (Kd.N_drewN HN.out nq)
                  have HP1 := Aside0.mk (pw_below_drewN HP.out nq)
                  clear HN HP hx1 hx2
                  generalize wr.drewN nq = W1 at HN1 HP1 ⊢
                  go_wp2_with fail
                  go_roundg k2
                  case measure => omega
                  case rel => exact ⟨n + 1, x, by rw [HWN.out], HM', HX', HN1, HP1⟩
              · have d3b : decide (j ≥ 0) = false := decide_eq_false d3
                have HH := Aside0.mk (hit_no (r := r) (s := s) (i := i) (j := j) (fun q => d3 q.2.2.1))
                have HX' := Aside0.mk (show x = matchL a b i j k ++ hits b r i j k (n + 1) by rw [HST.out, if_neg (by rw [HH.out]; simp), List.append_nil]; exact HX.out)
                go_wp2_with fail
                go_quiet (fail)
                have HN1 := Aside0.mk (Kd.N_drewN HN.out nq)
                have HP1 := Aside0.mk (pw_below_drewN HP.out nq)
                clear HN HP hx1 hx2
                generalize wr.drewN nq = W1 at HN1 HP1 ⊢
                go_wp2_with fail
                go_roundg k2
                case measure => omega
                case rel => exact ⟨n + 1, x, by rw [HWN.out], HM', HX', HN1, HP1⟩
            · have d2b : decide (i < (r.length : Int)) = false := decide_eq_false d2
              have HH := Aside0.mk (hit_no (r := r) (s := s) (i := i) (j := j) (fun q => d2 q.2.1))
              have HX' := Aside0.mk (show x = matchL a b i j k ++ hits b r i j k (n + 1) by rw [HST.out, if_neg (by rw [HH.out]; simp), List.append_nil]; exact HX.out)
              go_wp2_with fail
              go_quiet (fail)
              have HN1 := Aside0.mk (Kd.N_drewN HN.out nq)
              have HP1 := Aside0.mk (pw_below_drewN HP.out nq)
              clear HN HP hx1 hx2
              generalize wr.drewN nq = W1 at HN1 HP1 ⊢
              go_wp2_with fail
              go_roundg k2
              case measure => omega
              case rel => exact ⟨n + 1, x, by rw [HWN.out], HM', HX', HN1, HP1⟩
          · have d1b : decide (i ≥ 0) = false := decide_eq_false d1
            have HH := Aside0.mk (hit_no (r := r) (s := s) (i := i) (j := j) (fun q => d1 q.1))
            have HX' := Aside0.mk (show x = matchL a b i j k ++ hits b r i j k (n + 1) by rw [HST.out, if_neg (by rw [HH.out]; simp), List.append_nil]; exact HX.out)
            go_wp2_with fail
            go_quiet (fail)
            have HN1 := Aside0.mk (Kd.N_drewN HN.out nq)
            have HP1 := Aside0.mk (pw_below_drewN HP.out nq)
            clear HN HP hx1 hx2
            generalize wr.drewN nq = W1 at HN1 HP1 ⊢
            go_wp2_with fail
            go_roundg k2
            case measure => omega
            case rel => exact ⟨n + 1, x, by rw [HWN.out], HM', HX', HN1, HP1⟩
        · have cbb : decide ((n : Int) < (b.length : Int)) = false := decide_eq_false cb
          have en : n = b.length := by have := HM.out; omega
          subst en
          have HX' := Aside0.mk (show x = matchL a b i j (k + 1) by rw [HX.out, HML.out])
          go_wp2_with fail
          go_roundg k1
          case measure => omega
          case rel => exact ⟨k + 1, x, by rw [HW.out], HK', HX', HN, HP⟩
    · have cab : decide ((k : Int) < (a.length : Int)) = false := decide_eq_false ca
      have ek : k = a.length := by have := HK.out; omega
      subst ek
      have HF := Aside0.mk (Kd.V_mono (ok' := fun _ => True) (Kd.N_V (base' := 0) HN0.out) (fun _ _ => trivial))
      rw [HX0.out] at HF
      clear HN0
      go_wp2_with fail
      go_ret
      exact ⟨_, rfl, HF.out, HP0.out⟩
end Go.Proofs.Ythghflgmeepnlaa.Pa
end
