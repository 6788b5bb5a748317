/- cordonlaw01.ValueBack answers true, second half: the divisor is the least number; and both halves together. -/
import Derived.Test.YthghflgmeepnlaaPaL7
import Derived.Test.YthghflgmeepnlaaPax0
import Derived.Test.YthghflgmeepnlaaPax1
import Derived.Test.YthghflgmeepnlaaPaG0
import Derived.Test.YthghflgmeepnlaaHa
import Derived.Test.YthghflgmeepnlaaHf
namespace Go.Proofs.Ythghflgmeepnlaa.Pa
open Go.RowKit Go.Proofs.YthghflgmeepnlaaW.PrintWords Go.Proofs.YthghflgmeepnlaaW.PrintLast Go.Proofs.YthghflgmeepnlaaW.PrintMore
attribute [local go_sem] max2_int min2_int max_two min_two max_three min_three max_four min_four   -- for this text's walks alone
set_option linter.unusedVariables false
set_option linter.unusedSimpArgs false

attribute [local go_sem high] eqA33

theorem mod_gt {y : Int} (hl : y = (-9223372036854775808)) {i1 i2 : Int} {i3 : ByteArray} (hI : Aside0 (value_Int.f y = some (i1, i2, i3))) {a0 a1 : Int} {a2 : ByteArray} {m1 m2 : Int} {m3 : ByteArray} {m4 : Int}
    (hm : value_Mod.f a0 a1 a2 i1 i2 i3 = some (m1, m2, m3, m4)) : -9223372036854775808 < m2 := by
  have h := hI.out
  simp only [value_Int.f, Option.some.injEq, Prod.mk.injEq] at h
  obtain ⟨rfl, rfl, rfl⟩ := h
  subst hl
  rcases reckon_cases hm with ⟨_, _, h, _⟩ | ⟨_, _, h, _⟩ | ⟨_, hc, _⟩ | ⟨_, n, hc, _, _, h, _⟩
  · omega
  · omega
  · unfold value_Mod_1.f at hc
    rw [if_neg (by omega), if_neg (by omega)] at hc
    simp only [Option.some.injEq, Prod.mk.injEq] at hc
    have e := Int.natAbs_tmod a1 (-9223372036854775808)
    have l : a1.natAbs % (-9223372036854775808 : Int).natAbs < 9223372036854775808 := Nat.mod_lt _ (by decide)
    omega
  · omega

set_option maxHeartbeats 8000000 in
set_option maxRecDepth 100000 in
theorem cordonlaw01_ValueBack.callsB (k : Nat) (a0 : Int) (a1 : Int) (w : World) (hl : a1 = (-9223372036854775808)) (h : cordonlaw01_ValueBack.f k a0 a1 = some true) :
    Calls Try.prog 7 #[.int .i64 a0, .int .i64 a1] w fun e w' => e = .returned (.bool true) ∧ Below w.heap.size w w' := by
  have HLE := Aside0.mk hl
  clear hl
  have hu33 := Try.underlying33
  have HB := Aside0.mk (Below.refl w.heap.size w)
  have H : ((value_Int.f a0).bind fun bt348 => ((value_Int.f a1).bind fun bt351 => ((value_Add.f bt348.1 bt348.2.1 bt348.2.2 bt351.1 bt351.2.1 bt351.2.2).bind fun bt356 => (if bt356.2.2.2 = 0 then ((value_Sub.f bt356.1 bt356.2.1 bt356.2.2.1 bt351.1 bt351.2.1 bt351.2.2).bind fun bt361 => (if bt361.2.2.2 = 0 then (if (!(bt361.1 == bt348.1) || (!(bt361.2.1 == bt348.2.1) || (!(bt361.2.2.1.toList == bt348.2.2.toList)))) = true then (some false) else (cordonlaw01_ValueBack.j0 k a0 a1 bt348.1 bt348.2.1 bt348.2.2 bt351.1 bt351.2.1 bt351.2.2)) else (some false))) else (if bt356.2.2.2 = 4 then (cordonlaw01_ValueBack.j0 k a0 a1 bt348.1 bt348.2.1 bt348.2.2 bt351.1 bt351.2.1 bt351.2.2) else (some false)))))) = some true := h
  clear h
  replace H := Option.bind_eq_some_iff.mp H
  obtain ⟨⟨t348, t349, t350⟩, A30, H⟩ := H
  replace H : ((value_Int.f a1).bind fun bt351 => ((value_Add.f t348 t349 t350 bt351.1 bt351.2.1 bt351.2.2).bind fun bt356 => (if bt356.2.2.2 = 0 then ((value_Sub.f bt356.1 bt356.2.1 bt356.2.2.1 bt351.1 bt351.2.1 bt351.2.2).bind fun bt361 => (if bt361.2.2.2 = 0 then (if (!(bt361.1 == t348) || (!(bt361.2.1 == t349) || (!(bt361.2.2.1.toList == t350.toList)))) = true then (some false) else (cordonlaw01_ValueBack.j0 k a0 a1 t348 t349 t350 bt351.1 bt351.2.1 bt351.2.2)) else (some false))) else (if bt356.2.2.2 = 4 then (cordonlaw01_ValueBack.j0 k a0 a1 t348 t349 t350 bt351.1 bt351.2.1 bt351.2.2) else (some false))))) = some true := H
  have A3 := Aside0.mk A30
  clear A30
  replace H := Option.bind_eq_some_iff.mp H
  obtain ⟨⟨t351, t352, t353⟩, A40, H⟩ := H
  replace H : ((value_Add.f t348 t349 t350 t351 t352 t353).bind fun bt356 => (if bt356.2.2.2 = 0 then ((value_Sub.f bt356.1 bt356.2.1 bt356.2.2.1 t351 t352 t353).bind fun bt361 => (if bt361.2.2.2 = 0 then (if (!(bt361.1 == t348) || (!(bt361.2.1 == t349) || (!(bt361.2.2.1.toList == t350.toList)))) = true then (some false) else (cordonlaw01_ValueBack.j0 k a0 a1 t348 t349 t350 t351 t352 t353)) else (some false))) else (if bt356.2.2.2 = 4 then (cordonlaw01_ValueBack.j0 k a0 a1 t348 t349 t350 t351 t352 t353) else (some false)))) = some true := H
  have A4 := Aside0.mk A40
  clear A40
  replace H := Option.bind_eq_some_iff.mp H
  obtain ⟨⟨t356, t357, t358, t359⟩, A50, H⟩ := H
  replace H : (if t359 = 0 then ((value_Sub.f t356 t357 t358 t351 t352 t353).bind fun bt361 => (if bt361.2.2.2 = 0 then (if (!(bt361.1 == t348) || (!(bt361.2.1 == t349) || (!(bt361.2.2.1.toList == t350.toList)))) = true then (some false) else (cordonlaw01_ValueBack.j0 k a0 a1 t348 t349 t350 t351 t352 t353)) else (some false))) else (if t359 = 4 then (cordonlaw01_ValueBack.j0 k a0 a1 t348 t349 t350 t351 t352 t353) else (some false))) = some true := H
  have A5 := Aside0.mk A50
  clear A50
  have HC6 := Aside0.mk H
  clear H
  go_enter Try.func7, Try.ntmps7
  go_upto_if 31 with (first | ((with_reducible refine gate_callee (f := 35) rfl ?_); refine goesL_ (some 21) rfl rfl Try.func35 (by kernel_rfl) rfl #[.int .i64 a0] rfl (by (try simp only [List.map_toArray, List.map_cons, List.map_nil]); first | done | rfl | (simp only [List.length_drop, List.length_take]; rfl)) ?_; (with_reducible refine (value_Int.calls a0 t348 t349 t350 _ A3.out).mono ?_); rintro e w7 ⟨rfl, hb⟩; refine ⟨_, rfl, ?_⟩; have n0_ := Aside0.mk (below_step (by repeat (first | (with_reducible first | exact HB.out | apply below_alloc | apply pw_below_drewN | apply below_drew1) | exact HB.out)) hb); clear HB; have HB := n0_; clear n0_; (try clear hb); (try clear hb2); (try clear hk); (try clear hi)) | ((with_reducible refine gate_callee (f := 35) rfl ?_); refine goesL_ (some 23) rfl rfl Try.func35 (by kernel_rfl) rfl #[.int .i64 a1] rfl (by (try simp only [List.map_toArray, List.map_cons, List.map_nil]); first | done | rfl | (simp only [List.length_drop, List.length_take]; rfl)) ?_; (with_reducible refine (value_Int.calls a1 t351 t352 t353 _ A4.out).mono ?_); rintro e w8 ⟨rfl, hb⟩; refine ⟨_, rfl, ?_⟩; have n0_ := Aside0.mk (below_step (by repeat (first | (with_reducible first | exact HB.out | apply below_alloc | apply pw_below_drewN | apply below_drew1) | exact HB.out)) hb); clear HB; have HB := n0_; clear n0_; (try clear hb); (try clear hb2); (try clear hk); (try clear hi)) | ((with_reducible refine gate_dst (N := 5) rfl ?_); refine box_event ?hg (N := 5) ?hd (cs := #[.int .i64 0, .int .i64 0, .string (⟨#[]⟩ : ByteArray)]) (t := 33) ?hr ?_; (case hd => rfl); (case hg => rfl); (case hr => first | (go_simp; done) | (go_simp; rfl)); intro gb354 hg w9 hbox hb; have n0_ := Aside0.mk (below_step (by repeat (first | (with_reducible first | exact HB.out | apply below_alloc | apply pw_below_drewN | apply below_drew1) | exact HB.out)) hb); have n1_ := Aside0.mk (hbox); have n2_ := Aside0.mk ((by rw [hg]; exact (below_size (by repeat (first | (with_reducible first | exact HB.out | apply below_alloc | apply pw_below_drewN | apply below_drew1) | exact HB.out))) : w.heap.size ≤ gb354)); have n3_ := Aside0.mk ((by rw [hg]; exact (below_size (by repeat (first | (with_reducible first | exact HB.out | apply below_alloc | apply pw_below_drewN | apply below_drew1) | exact HB.out))) : w.heap.size ≤ gb354)); clear HB; have HB := n0_; have BK354 := n1_; have GW354 := n2_; have GE354 := n3_; clear n0_ n1_ n2_ n3_; clear hb hbox hg) | ((with_reducible refine gate_dst (N := 6) rfl ?_); refine box_event ?hg (N := 6) ?hd (cs := #[.int .i64 0, .int .i64 0, .string (⟨#[]⟩ : ByteArray)]) (t := 33) ?hr ?_; (case hd => rfl); (case hg => rfl); (case hr => first | (go_simp; done) | (go_simp; rfl)); intro gb355 hg w10 hbox hb; have n0_ := Aside0.mk (blk_below (g := gb354) (o := .cells #[.int .i64 0, .int .i64 0, .string (⟨#[]⟩ : ByteArray)] 33 (0, 0)) (by (with_reducible repeat (first | refine blk_drewN ?_ _ | refine blk_drew ?_ | refine blk_alloc ?_ _)); exact BK354.out) hb); have n1_ := Aside0.mk (below_step (by repeat (first | (with_reducible first | exact HB.out | apply below_alloc | apply pw_below_drewN | apply below_drew1 | refine below_set ?_ GE354.out) | exact HB.out)) hb); have n2_ := Aside0.mk (hbox); have n3_ := Aside0.mk ((by rw [hg]; exact (below_size (by repeat (first | (with_reducible first | exact HB.out | apply below_alloc | apply pw_below_drewN | apply below_drew1 | refine below_set ?_ GE354.out) | exact HB.out))) : w.heap.size ≤ gb355)); have n4_ := Aside0.mk ((by rw [hg]; exact (below_size (by repeat (first | (with_reducible first | exact HB.out | apply below_alloc | apply pw_below_drewN | apply below_drew1 | refine below_set ?_ GE354.out) | exact HB.out))) : w.heap.size ≤ gb355)); have n5_ := Aside0.mk ((by rw [hg]; exact Nat.ne_of_lt (blk_lt (g := gb354) (o := .cells #[.int .i64 0, .int .i64 0, .string (⟨#[]⟩ : ByteArray)] 33 (0, 0)) (by (with_reducible repeat (first | refine blk_drewN ?_ _ | refine blk_drew ?_ | refine blk_alloc ?_ _)); exact BK354.out)) : gb354 ≠ gb355)); have n6_ := Aside0.mk ((by rw [hg]; exact Nat.ne_of_gt (blk_lt (g := gb354) (o := .cells #[.int .i64 0, .int .i64 0, .string (⟨#[]⟩ : ByteArray)] 33 (0, 0)) (by (with_reducible repeat (first | refine blk_drewN ?_ _ | refine blk_drew ?_ | refine blk_alloc ?_ _)); exact BK354.out)) : gb355 ≠ gb354)); clear BK354; clear HB; have BK354 := n0_; have HB := n1_; have BK355 := n2_; have GW355 := n3_; have GE355 := n4_; have NB354_355 := n5_; have NB355_354 := n6_; clear n0_ n1_ n2_ n3_ n4_ n5_ n6_; clear hb hbox hg; have hnb11 := NB354_355.out; have hnc11 := NB355_354.out; have hcz12_0 : w10.cell? ⟨gb354, 0, none⟩ = some (.int .i64 0) := (blk_cell BK354.out 0).trans rfl; have hcz12_1 : w10.cell? ⟨gb354, 1, none⟩ = some (.int .i64 0) := (blk_cell BK354.out 1).trans rfl; have hcz12_2 : w10.cell? ⟨gb354, 2, none⟩ = some (.string (⟨#[]⟩ : ByteArray)) := (blk_cell BK354.out 2).trans rfl; have hfz12_0 := blk_frozen BK354.out 0; have hfz12_1 := blk_frozen BK354.out 1; have hfz12_2 := blk_frozen BK354.out 2; have hcz13_0 : w10.cell? ⟨gb355, 0, none⟩ = some (.int .i64 0) := (blk_cell BK355.out 0).trans rfl; have hcz13_1 : w10.cell? ⟨gb355, 1, none⟩ = some (.int .i64 0) := (blk_cell BK355.out 1).trans rfl; have hcz13_2 : w10.cell? ⟨gb355, 2, none⟩ = some (.string (⟨#[]⟩ : ByteArray)) := (blk_cell BK355.out 2).trans rfl; have hfz13_0 := blk_frozen BK355.out 0; have hfz13_1 := blk_frozen BK355.out 1; have hfz13_2 := blk_frozen BK355.out 2) | ((with_reducible refine gate_callee (f := 44) rfl ?_); refine goesL_ (some 27) rfl rfl Try.func44 (by kernel_rfl) rfl #[.agg #[.int .i64 t348, .int .i64 t349, .string t350], .agg #[.int .i64 t351, .int .i64 t352, .string t353]] rfl (by (try simp only [List.map_toArray, List.map_cons, List.map_nil]); first | done | rfl | (simp only [List.length_drop, List.length_take]; rfl)) ?_; (with_reducible refine (value_Add.calls t348 t349 t350 t351 t352 t353 t356 t357 t358 t359 _ A5.out).mono ?_); rintro e w14 ⟨rfl, hb⟩; refine ⟨_, rfl, ?_⟩; have n0_ := Aside0.mk (blk_below (g := gb354) (o := .cells #[.int .i64 t348, .int .i64 t349, .string t350] 33 (0, 0)) (by (with_reducible repeat (first | refine blk_drewN ?_ _ | refine blk_drew ?_ | refine blk_alloc ?_ _)); refine blk_far ?_ NB354_355.out _; (with_reducible repeat (first | refine blk_drewN ?_ _ | refine blk_drew ?_ | refine blk_alloc ?_ _)); refine blk_far ?_ NB354_355.out _; (with_reducible repeat (first | refine blk_drewN ?_ _ | refine blk_drew ?_ | refine blk_alloc ?_ _)); refine blk_far ?_ NB354_355.out _; (with_reducible repeat (first | refine blk_drewN ?_ _ | refine blk_drew ?_ | refine blk_alloc ?_ _)); refine blk_put (cs := #[.int .i64 t348, .int .i64 t349, .string (⟨#[]⟩ : ByteArray)]) ?_ 2 _ rfl; (with_reducible repeat (first | refine blk_drewN ?_ _ | refine blk_drew ?_ | refine blk_alloc ?_ _)); refine blk_put (cs := #[.int .i64 t348, .int .i64 0, .string (⟨#[]⟩ : ByteArray)]) ?_ 1 _ rfl; (with_reducible repeat (first | refine blk_drewN ?_ _ | refine blk_drew ?_ | refine blk_alloc ?_ _)); refine blk_put (cs := #[.int .i64 0, .int .i64 0, .string (⟨#[]⟩ : ByteArray)]) ?_ 0 _ rfl; (with_reducible repeat (first | refine blk_drewN ?_ _ | refine blk_drew ?_ | refine blk_alloc ?_ _)); exact BK354.out) hb); have n1_ := Aside0.mk (blk_below (g := gb355) (o := .cells #[.int .i64 t351, .int .i64 t352, .string t353] 33 (0, 0)) (by (with_reducible repeat (first | refine blk_drewN ?_ _ | refine blk_drew ?_ | refine blk_alloc ?_ _)); refine blk_put (cs := #[.int .i64 t351, .int .i64 t352, .string (⟨#[]⟩ : ByteArray)]) ?_ 2 _ rfl; (with_reducible repeat (first | refine blk_drewN ?_ _ | refine blk_drew ?_ | refine blk_alloc ?_ _)); refine blk_put (cs := #[.int .i64 t351, .int .i64 0, .string (⟨#[]⟩ : ByteArray)]) ?_ 1 _ rfl; (with_reducible repeat (first | refine blk_drewN ?_ _ | refine blk_drew ?_ | refine blk_alloc ?_ _)); refine blk_put (cs := #[.int .i64 0, .int .i64 0, .string (⟨#[]⟩ : ByteArray)]) ?_ 0 _ rfl; (with_reducible repeat (first | refine blk_drewN ?_ _ | refine blk_drew ?_ | refine blk_alloc ?_ _)); refine blk_far ?_ NB355_354.out _; (with_reducible repeat (first | refine blk_drewN ?_ _ | refine blk_drew ?_ | refine blk_alloc ?_ _)); refine blk_far ?_ NB355_354.out _; (with_reducible repeat (first | refine blk_drewN ?_ _ | refine blk_drew ?_ | refine blk_alloc ?_ _)); refine blk_far ?_ NB355_354.out _; (with_reducible repeat (first | refine blk_drewN ?_ _ | refine blk_drew ?_ | refine blk_alloc ?_ _)); exact BK355.out) hb); have n2_ := Aside0.mk (below_step (by repeat (first | (with_reducible first | exact HB.out | apply below_alloc | apply pw_below_drewN | apply below_drew1 | refine below_set ?_ GE354.out | refine below_set ?_ GE355.out) | exact HB.out)) hb); clear BK354; clear BK355; clear HB; have BK354 := n0_; have BK355 := n1_; have HB := n2_; clear n0_ n1_ n2_; (try clear hb); (try clear hb2); (try clear hk); (try clear hi)) | ((with_reducible refine gate_dst (N := 7) rfl ?_); refine box_event ?hg (N := 7) ?hd (cs := #[.int .i64 0, .int .i64 0, .string (⟨#[]⟩ : ByteArray)]) (t := 33) ?hr ?_; (case hd => rfl); (case hg => rfl); (case hr => first | (go_simp; done) | (go_simp; rfl)); intro gb360 hg w15 hbox hb; have n0_ := Aside0.mk (blk_below (g := gb354) (o := .cells #[.int .i64 t348, .int .i64 t349, .string t350] 33 (0, 0)) (by (with_reducible repeat (first | refine blk_drewN ?_ _ | refine blk_drew ?_ | refine blk_alloc ?_ _)); exact BK354.out) hb); have n1_ := Aside0.mk (blk_below (g := gb355) (o := .cells #[.int .i64 t351, .int .i64 t352, .string t353] 33 (0, 0)) (by (with_reducible repeat (first | refine blk_drewN ?_ _ | refine blk_drew ?_ | refine blk_alloc ?_ _)); exact BK355.out) hb); have n2_ := Aside0.mk (below_step (by repeat (first | (with_reducible first | exact HB.out | apply below_alloc | apply pw_below_drewN | apply below_drew1 | refine below_set ?_ GE354.out | refine below_set ?_ GE355.out) | exact HB.out)) hb); have n3_ := Aside0.mk (hbox); have n4_ := Aside0.mk ((by rw [hg]; exact (below_size (by repeat (first | (with_reducible first | exact HB.out | apply below_alloc | apply pw_below_drewN | apply below_drew1 | refine below_set ?_ GE354.out | refine below_set ?_ GE355.out) | exact HB.out))) : w.heap.size ≤ gb360)); have n5_ := Aside0.mk ((by rw [hg]; exact (below_size (by repeat (first | (with_reducible first | exact HB.out | apply below_alloc | apply pw_below_drewN | apply below_drew1 | refine below_set ?_ GE354.out | refine below_set ?_ GE355.out) | exact HB.out))) : w.heap.size ≤ gb360)); have n6_ := Aside0.mk ((by rw [hg]; exact Nat.ne_of_lt (blk_lt (g := gb354) (o := .cells #[.int .i64 t348, .int .i64 t349, .string t350] 33 (0, 0)) (by (with_reducible repeat (first | refine blk_drewN ?_ _ | refine blk_drew ?_ | refine blk_alloc ?_ _)); exact BK354.out)) : gb354 ≠ gb360)); have n7_ := Aside0.mk ((by rw [hg]; exact Nat.ne_of_gt (blk_lt (g := gb354) (o := .cells #[.int .i64 t348, .int .i64 t349, .string t350] 33 (0, 0)) (by (with_reducible repeat (first | refine blk_drewN ?_ _ | refine blk_drew ?_ | refine blk_alloc ?_ _)); exact BK354.out)) : gb360 ≠ gb354)); have n8_ := Aside0.mk ((by rw [hg]; exact Nat.ne_of_lt (blk_lt (g := gb355) (o := .cells #[.int .i64 t351, .int .i64 t352, .string t353] 33 (0, 0)) (by (with_reducible repeat (first | refine blk_drewN ?_ _ | refine blk_drew ?_ | refine blk_alloc ?_ _)); exact BK355.out)) : gb355 ≠ gb360)); have n9_ := Aside0.mk ((by rw [hg]; exact Nat.ne_of_gt (blk_lt (g := gb355) (o := .cells #[.int .i64 t351, .int .i64 t352, .string t353] 33 (0, 0)) (by (with_reducible repeat (first | refine blk_drewN ?_ _ | refine blk_drew ?_ | refine blk_alloc ?_ _)); exact BK355.out)) : gb360 ≠ gb355)); clear BK354; clear BK355; clear HB; have BK354 := n0_; have BK355 := n1_; have HB := n2_; have BK360 := n3_; have GW360 := n4_; have GE360 := n5_; have NB354_360 := n6_; have NB360_354 := n7_; have NB355_360 := n8_; have NB360_355 := n9_; clear n0_ n1_ n2_ n3_ n4_ n5_ n6_ n7_ n8_ n9_; clear hb hbox hg; have hnb16 := NB360_354.out; have hnc16 := NB354_360.out; have hnb17 := NB360_355.out; have hnc17 := NB355_360.out; have hcz18_0 : w15.cell? ⟨gb360, 0, none⟩ = some (.int .i64 0) := (blk_cell BK360.out 0).trans rfl; have hcz18_1 : w15.cell? ⟨gb360, 1, none⟩ = some (.int .i64 0) := (blk_cell BK360.out 1).trans rfl; have hcz18_2 : w15.cell? ⟨gb360, 2, none⟩ = some (.string (⟨#[]⟩ : ByteArray)) := (blk_cell BK360.out 2).trans rfl; have hfz18_0 := blk_frozen BK360.out 0; have hfz18_1 := blk_frozen BK360.out 1; have hfz18_2 := blk_frozen BK360.out 2))
  (try simp only [Act.put, List.setIfInBounds_toArray, List.set_cons_zero, List.set_cons_succ])
  go_cut [] (fun wc => ∃ (kq : Nat), Aside0 (cordonlaw01_ValueBack.j0 kq a0 a1 t348 t349 t350 t351 t352 t353 = some true) ∧ Aside0 (kq ≤ k) ∧ Aside0 (wc.heap[gb354]? = some (.cells #[.int .i64 t348, .int .i64 t349, .string t350] 33 (0, 0))) ∧ Aside0 (wc.heap[gb355]? = some (.cells #[.int .i64 t351, .int .i64 t352, .string t353] 33 (0, 0))) ∧ Aside0 (wc.heap[gb360]? = some (.cells #[.int .i64 t356, .int .i64 t357, .string t358] 33 (0, 0))) ∧ Aside0 (Below w.heap.size w wc))
  case first =>
    have H := HC6.out
    clear HC6
    by_cases c19 : t359 = 0
    · rw [if_pos c19] at H
      have c19b0 : (t359 == 0) = true := beq_iff_eq.mpr c19
      have c19b1 : (t359 != 0) = false := bne_eq_false_iff_eq.mpr c19
      clear c19
      (first | rw [c19b0] | (simp only [i64_w, i32_w]; rw [c19b0]) | skip)
      replace H := Option.bind_eq_some_iff.mp H
      obtain ⟨⟨t361, t362, t363, t364⟩, A200, H⟩ := H
      replace H : (if t364 = 0 then (if (!(t361 == t348) || (!(t362 == t349) || (!(t363.toList == t350.toList)))) = true then (some false) else (cordonlaw01_ValueBack.j0 k a0 a1 t348 t349 t350 t351 t352 t353)) else (some false)) = some true := H
      have A20 := Aside0.mk A200
      clear A200
      by_cases c21 : t364 = 0
      · rw [if_pos c21] at H
        have c21b0 : (t364 == 0) = true := beq_iff_eq.mpr c21
        have c21b1 : (t364 != 0) = false := bne_eq_false_iff_eq.mpr c21
        clear c21
        by_cases c22 : (!(t361 == t348) || (!(t362 == t349) || (!(t363.toList == t350.toList)))) = true
        · rw [if_pos c22] at H
          have c22b0 : (!(t361 == t348) || (!(t362 == t349) || (!(t363.toList == t350.toList)))) = true := c22
          clear c22
          exact absurd H (by simp)
        · rw [if_neg c22] at H
          have c22b0 : (!(t361 == t348) || (!(t362 == t349) || (!(t363.toList == t350.toList)))) = false := by simpa using c22
          clear c22
          have H' := Aside0.mk H
          clear H
          have hnb23 := NB360_354.out
          have hnc23 := NB354_360.out
          have hnb24 := NB360_355.out
          have hnc24 := NB355_360.out
          have hcz25_0 : w15.cell? ⟨gb360, 0, none⟩ = some (.int .i64 0) := (blk_cell BK360.out 0).trans rfl
          have hcz25_1 : w15.cell? ⟨gb360, 1, none⟩ = some (.int .i64 0) := (blk_cell BK360.out 1).trans rfl
          have hcz25_2 : w15.cell? ⟨gb360, 2, none⟩ = some (.string (⟨#[]⟩ : ByteArray)) := (blk_cell BK360.out 2).trans rfl
          have hfz25_0 := blk_frozen BK360.out 0
          have hfz25_1 := blk_frozen BK360.out 1
          have hfz25_2 := blk_frozen BK360.out 2
          have hnb26 := NB355_354.out
          have hnc26 := NB354_355.out
          have hcz27_0 : w15.cell? ⟨gb355, 0, none⟩ = some (.int .i64 t351) := (blk_cell BK355.out 0).trans rfl
          have hcz27_1 : w15.cell? ⟨gb355, 1, none⟩ = some (.int .i64 t352) := (blk_cell BK355.out 1).trans rfl
          have hcz27_2 : w15.cell? ⟨gb355, 2, none⟩ = some (.string t353) := (blk_cell BK355.out 2).trans rfl
          have hfz27_0 := blk_frozen BK355.out 0
          have hfz27_1 := blk_frozen BK355.out 1
          have hfz27_2 := blk_frozen BK355.out 2
          go_wp2_with (first | ((with_reducible refine gate_callee (f := 45) rfl ?_); refine goesL_ (some 35) rfl rfl Try.func45 (by kernel_rfl) rfl #[.agg #[.int .i64 t356, .int .i64 t357, .string t358], .agg #[.int .i64 t351, .int .i64 t352, .string t353]] rfl (by (try simp only [List.map_toArray, List.map_cons, List.map_nil]); first | done | rfl | (simp only [List.length_drop, List.length_take]; rfl)) ?_; (with_reducible refine (value_Sub.calls t356 t357 t358 t351 t352 t353 t361 t362 t363 t364 _ A20.out).mono ?_); rintro e w28 ⟨rfl, hb⟩; refine ⟨_, rfl, ?_⟩; have n0_ := Aside0.mk (blk_below (g := gb354) (o := .cells #[.int .i64 t348, .int .i64 t349, .string t350] 33 (0, 0)) (by (with_reducible repeat (first | refine blk_drewN ?_ _ | refine blk_drew ?_ | refine blk_alloc ?_ _)); refine blk_far ?_ NB354_360.out _; (with_reducible repeat (first | refine blk_drewN ?_ _ | refine blk_drew ?_ | refine blk_alloc ?_ _)); refine blk_far ?_ NB354_360.out _; (with_reducible repeat (first | refine blk_drewN ?_ _ | refine blk_drew ?_ | refine blk_alloc ?_ _)); refine blk_far ?_ NB354_360.out _; (with_reducible repeat (first | refine blk_drewN ?_ _ | refine blk_drew ?_ | refine blk_alloc ?_ _)); exact BK354.out) hb); have n1_ := Aside0.mk (blk_below (g := gb355) (o := .cells #[.int .i64 t351, .int .i64 t352, .string t353] 33 (0, 0)) (by (with_reducible repeat (first | refine blk_drewN ?_ _ | refine blk_drew ?_ | refine blk_alloc ?_ _)); refine blk_far ?_ NB355_360.out _; (with_reducible repeat (first | refine blk_drewN ?_ _ | refine blk_drew ?_ | refine blk_alloc ?_ _)); refine blk_far ?_ NB355_360.out _; (with_reducible repeat (first | refine blk_drewN ?_ _ | refine blk_drew ?_ | refine blk_alloc ?_ _)); refine blk_far ?_ NB355_360.out _; (with_reducible repeat (first | refine blk_drewN ?_ _ | refine blk_drew ?_ | refine blk_alloc ?_ _)); exact BK355.out) hb); have n2_ := Aside0.mk (blk_below (g := gb360) (o := .cells #[.int .i64 t356, .int .i64 t357, .string t358] 33 (0, 0)) (by (with_reducible repeat (first | refine blk_drewN ?_ _ | refine blk_drew ?_ | refine blk_alloc ?_ _)); refine blk_put (cs := #[.int .i64 t356, .int .i64 t357, .string (⟨#[]⟩ : ByteArray)]) ?_ 2 _ rfl; (with_reducible repeat (first | refine blk_drewN ?_ _ | refine blk_drew ?_ | refine blk_alloc ?_ _)); refine blk_put (cs := #[.int .i64 t356, .int .i64 0, .string (⟨#[]⟩ : ByteArray)]) ?_ 1 _ rfl; (with_reducible repeat (first | refine blk_drewN ?_ _ | refine blk_drew ?_ | refine blk_alloc ?_ _)); refine blk_put (cs := #[.int .i64 0, .int .i64 0, .string (⟨#[]⟩ : ByteArray)]) ?_ 0 _ rfl; (with_reducible repeat (first | refine blk_drewN ?_ _ | refine blk_drew ?_ | refine blk_alloc ?_ _)); exact BK360.out) hb); have n3_ := Aside0.mk (below_step (by repeat (first | (with_reducible first | exact HB.out | apply below_alloc | apply pw_below_drewN | apply below_drew1 | refine below_set ?_ GE354.out | refine below_set ?_ GE355.out | refine below_set ?_ GE360.out) | exact HB.out)) hb); clear BK354; clear BK355; clear BK360; clear HB; have BK354 := n0_; have BK355 := n1_; have BK360 := n2_; have HB := n3_; clear n0_ n1_ n2_ n3_; (try clear hb); (try clear hb2); (try clear hk); (try clear hi)) | ((with_reducible refine gate_dst (N := 9) rfl ?_); refine box_event ?hg (N := 9) ?hd (cs := #[.int .i64 0, .int .i64 0, .string (⟨#[]⟩ : ByteArray)]) (t := 33) ?hr ?_; (case hd => rfl); (case hg => rfl); (case hr => first | (go_simp; done) | (go_simp; rfl)); intro gb365 hg w29 hbox hb; have n0_ := Aside0.mk (blk_below (g := gb354) (o := .cells #[.int .i64 t348, .int .i64 t349, .string t350] 33 (0, 0)) (by (with_reducible repeat (first | refine blk_drewN ?_ _ | refine blk_drew ?_ | refine blk_alloc ?_ _)); exact BK354.out) hb); have n1_ := Aside0.mk (blk_below (g := gb355) (o := .cells #[.int .i64 t351, .int .i64 t352, .string t353] 33 (0, 0)) (by (with_reducible repeat (first | refine blk_drewN ?_ _ | refine blk_drew ?_ | refine blk_alloc ?_ _)); exact BK355.out) hb); have n2_ := Aside0.mk (blk_below (g := gb360) (o := .cells #[.int .i64 t356, .int .i64 t357, .string t358] 33 (0, 0)) (by (with_reducible repeat (first | refine blk_drewN ?_ _ | refine blk_drew ?_ | refine blk_alloc ?_ _)); exact BK360.out) hb); have n3_ := Aside0.mk (below_step (by repeat (first | (with_reducible first | exact HB.out | apply below_alloc | apply pw_below_drewN | apply below_drew1 | refine below_set ?_ GE354.out | refine below_set ?_ GE355.out | refine below_set ?_ GE360.out) | exact HB.out)) hb); have n4_ := Aside0.mk (hbox); have n5_ := Aside0.mk ((by rw [hg]; exact (below_size (by repeat (first | (with_reducible first | exact HB.out | apply below_alloc | apply pw_below_drewN | apply below_drew1 | refine below_set ?_ GE354.out | refine below_set ?_ GE355.out | refine below_set ?_ GE360.out) | exact HB.out))) : w.heap.size ≤ gb365)); have n6_ := Aside0.mk ((by rw [hg]; exact (below_size (by repeat (first | (with_reducible first | exact HB.out | apply below_alloc | apply pw_below_drewN | apply below_drew1 | refine below_set ?_ GE354.out | refine below_set ?_ GE355.out | refine below_set ?_ GE360.out) | exact HB.out))) : w.heap.size ≤ gb365)); have n7_ := Aside0.mk ((by rw [hg]; exact Nat.ne_of_lt (blk_lt (g := gb354) (o := .cells #[.int .i64 t348, .int .i64 t349, .string t350] 33 (0, 0)) (by (with_reducible repeat (first | refine blk_drewN ?_ _ | refine blk_drew ?_ | refine blk_alloc ?_ _)); exact BK354.out)) : gb354 ≠ gb365)); have n8_ := Aside0.mk ((by rw [hg]; exact Nat.ne_of_gt (blk_lt (g := gb354) (o := .cells #[.int .i64 t348, .int .i64 t349, .string t350] 33 (0, 0)) (by (with_reducible repeat (first | refine blk_drewN ?_ _ | refine blk_drew ?_ | refine blk_alloc ?_ _)); exact BK354.out)) : gb365 ≠ gb354)); have n9_ := Aside0.mk ((by rw [hg]; exact Nat.ne_of_lt (blk_lt (g := gb355) (o := .cells #[.int .i64 t351, .int .i64 t352, .string t353] 33 (0, 0)) (by (with_reducible repeat (first | refine blk_drewN ?_ _ | refine blk_drew ?_ | refine blk_alloc ?_ _)); exact BK355.out)) : gb355 ≠ gb365)); have n10_ := Aside0.mk ((by rw [hg]; exact Nat.ne_of_gt (blk_lt (g := gb355) (o := .cells #[.int .i64 t351, .int .i64 t352, .string t353] 33 (0, 0)) (by (with_reducible repeat (first | refine blk_drewN ?_ _ | refine blk_drew ?_ | refine blk_alloc ?_ _)); exact BK355.out)) : gb365 ≠ gb355)); have n11_ := Aside0.mk ((by rw [hg]; exact Nat.ne_of_lt (blk_lt (g := gb360) (o := .cells #[.int .i64 t356, .int .i64 t357, .string t358] 33 (0, 0)) (by (with_reducible repeat (first | refine blk_drewN ?_ _ | refine blk_drew ?_ | refine blk_alloc ?_ _)); exact BK360.out)) : gb360 ≠ gb365)); have n12_ := Aside0.mk ((by rw [hg]; exact Nat.ne_of_gt (blk_lt (g := gb360) (o := .cells #[.int .i64 t356, .int .i64 t357, .string t358] 33 (0, 0)) (by (with_reducible repeat (first | refine blk_drewN ?_ _ | refine blk_drew ?_ | refine blk_alloc ?_ _)); exact BK360.out)) : gb365 ≠ gb360)); clear BK354; clear BK355; clear BK360; clear HB; have BK354 := n0_; have BK355 := n1_; have BK360 := n2_; have HB := n3_; have BK365 := n4_; have GW365 := n5_; have GE365 := n6_; have NB354_365 := n7_; have NB365_354 := n8_; have NB355_365 := n9_; have NB365_355 := n10_; have NB360_365 := n11_; have NB365_360 := n12_; clear n0_ n1_ n2_ n3_ n4_ n5_ n6_ n7_ n8_ n9_ n10_ n11_ n12_; clear hb hbox hg; have hnb30 := NB365_354.out; have hnc30 := NB354_365.out; have hnb31 := NB365_355.out; have hnc31 := NB355_365.out; have hnb32 := NB365_360.out; have hnc32 := NB360_365.out; have hcz33_0 : w29.cell? ⟨gb365, 0, none⟩ = some (.int .i64 0) := (blk_cell BK365.out 0).trans rfl; have hcz33_1 : w29.cell? ⟨gb365, 1, none⟩ = some (.int .i64 0) := (blk_cell BK365.out 1).trans rfl; have hcz33_2 : w29.cell? ⟨gb365, 2, none⟩ = some (.string (⟨#[]⟩ : ByteArray)) := (blk_cell BK365.out 2).trans rfl; have hfz33_0 := blk_frozen BK365.out 0; have hfz33_1 := blk_frozen BK365.out 1; have hfz33_2 := blk_frozen BK365.out 2; have hcz34_0 : w29.cell? ⟨gb354, 0, none⟩ = some (.int .i64 t348) := (blk_cell BK354.out 0).trans rfl; have hcz34_1 : w29.cell? ⟨gb354, 1, none⟩ = some (.int .i64 t349) := (blk_cell BK354.out 1).trans rfl; have hcz34_2 : w29.cell? ⟨gb354, 2, none⟩ = some (.string t350) := (blk_cell BK354.out 2).trans rfl; have hfz34_0 := blk_frozen BK354.out 0; have hfz34_1 := blk_frozen BK354.out 1; have hfz34_2 := blk_frozen BK354.out 2))
          go_meet
          case rel => exact ⟨_, H', ⟨by first | omega | exact Nat.le_refl _⟩, ⟨by (with_reducible repeat (first | refine blk_drewN ?_ _ | refine blk_drew ?_ | refine blk_alloc ?_ _)); refine blk_far ?_ NB354_365.out _; (with_reducible repeat (first | refine blk_drewN ?_ _ | refine blk_drew ?_ | refine blk_alloc ?_ _)); refine blk_far ?_ NB354_365.out _; (with_reducible repeat (first | refine blk_drewN ?_ _ | refine blk_drew ?_ | refine blk_alloc ?_ _)); refine blk_far ?_ NB354_365.out _; (with_reducible repeat (first | refine blk_drewN ?_ _ | refine blk_drew ?_ | refine blk_alloc ?_ _)); exact BK354.out⟩, ⟨by (with_reducible repeat (first | refine blk_drewN ?_ _ | refine blk_drew ?_ | refine blk_alloc ?_ _)); refine blk_far ?_ NB355_365.out _; (with_reducible repeat (first | refine blk_drewN ?_ _ | refine blk_drew ?_ | refine blk_alloc ?_ _)); refine blk_far ?_ NB355_365.out _; (with_reducible repeat (first | refine blk_drewN ?_ _ | refine blk_drew ?_ | refine blk_alloc ?_ _)); refine blk_far ?_ NB355_365.out _; (with_reducible repeat (first | refine blk_drewN ?_ _ | refine blk_drew ?_ | refine blk_alloc ?_ _)); exact BK355.out⟩, ⟨by (with_reducible repeat (first | refine blk_drewN ?_ _ | refine blk_drew ?_ | refine blk_alloc ?_ _)); refine blk_far ?_ NB360_365.out _; (with_reducible repeat (first | refine blk_drewN ?_ _ | refine blk_drew ?_ | refine blk_alloc ?_ _)); refine blk_far ?_ NB360_365.out _; (with_reducible repeat (first | refine blk_drewN ?_ _ | refine blk_drew ?_ | refine blk_alloc ?_ _)); refine blk_far ?_ NB360_365.out _; (with_reducible repeat (first | refine blk_drewN ?_ _ | refine blk_drew ?_ | refine blk_alloc ?_ _)); exact BK360.out⟩, ⟨by repeat (first | (with_reducible first | exact HB.out | apply below_alloc | apply pw_below_drewN | apply below_drew1 | refine below_set ?_ GE354.out | refine below_set ?_ GE355.out | refine below_set ?_ GE360.out | refine below_set ?_ GE365.out) | exact HB.out)⟩⟩
      · rw [if_neg c21] at H
        have c21b0 : (t364 == 0) = false := beq_eq_false_iff_ne.mpr c21
        have c21b1 : (t364 != 0) = true := bne_iff_ne.mpr c21
        exact absurd H (by simp)
    · rw [if_neg c19] at H
      have c19b0 : (t359 == 0) = false := beq_eq_false_iff_ne.mpr c19
      have c19b1 : (t359 != 0) = true := bne_iff_ne.mpr c19
      (first | rw [c19b0] | (simp only [i64_w, i32_w]; rw [c19b0]) | skip)
      by_cases c35 : t359 = 4
      · rw [if_pos c35] at H
        have c35b0 : (t359 == 4) = true := beq_iff_eq.mpr c35
        have c35b1 : (t359 != 4) = false := bne_eq_false_iff_eq.mpr c35
        clear c35
        have H' := Aside0.mk H
        clear H
        go_wp2
        go_meet
        case rel => exact ⟨_, H', ⟨by first | omega | exact Nat.le_refl _⟩, ⟨by (with_reducible repeat (first | refine blk_drewN ?_ _ | refine blk_drew ?_ | refine blk_alloc ?_ _)); refine blk_far ?_ NB354_360.out _; (with_reducible repeat (first | refine blk_drewN ?_ _ | refine blk_drew ?_ | refine blk_alloc ?_ _)); refine blk_far ?_ NB354_360.out _; (with_reducible repeat (first | refine blk_drewN ?_ _ | refine blk_drew ?_ | refine blk_alloc ?_ _)); refine blk_far ?_ NB354_360.out _; (with_reducible repeat (first | refine blk_drewN ?_ _ | refine blk_drew ?_ | refine blk_alloc ?_ _)); exact BK354.out⟩, ⟨by (with_reducible repeat (first | refine blk_drewN ?_ _ | refine blk_drew ?_ | refine blk_alloc ?_ _)); refine blk_far ?_ NB355_360.out _; (with_reducible repeat (first | refine blk_drewN ?_ _ | refine blk_drew ?_ | refine blk_alloc ?_ _)); refine blk_far ?_ NB355_360.out _; (with_reducible repeat (first | refine blk_drewN ?_ _ | refine blk_drew ?_ | refine blk_alloc ?_ _)); refine blk_far ?_ NB355_360.out _; (with_reducible repeat (first | refine blk_drewN ?_ _ | refine blk_drew ?_ | refine blk_alloc ?_ _)); exact BK355.out⟩, ⟨by (with_reducible repeat (first | refine blk_drewN ?_ _ | refine blk_drew ?_ | refine blk_alloc ?_ _)); refine blk_put (cs := #[.int .i64 t356, .int .i64 t357, .string (⟨#[]⟩ : ByteArray)]) ?_ 2 _ rfl; (with_reducible repeat (first | refine blk_drewN ?_ _ | refine blk_drew ?_ | refine blk_alloc ?_ _)); refine blk_put (cs := #[.int .i64 t356, .int .i64 0, .string (⟨#[]⟩ : ByteArray)]) ?_ 1 _ rfl; (with_reducible repeat (first | refine blk_drewN ?_ _ | refine blk_drew ?_ | refine blk_alloc ?_ _)); refine blk_put (cs := #[.int .i64 0, .int .i64 0, .string (⟨#[]⟩ : ByteArray)]) ?_ 0 _ rfl; (with_reducible repeat (first | refine blk_drewN ?_ _ | refine blk_drew ?_ | refine blk_alloc ?_ _)); exact BK360.out⟩, ⟨by repeat (first | (with_reducible first | exact HB.out | apply below_alloc | apply pw_below_drewN | apply below_drew1 | refine below_set ?_ GE354.out | refine below_set ?_ GE355.out | refine below_set ?_ GE360.out) | exact HB.out)⟩⟩
      · rw [if_neg c35] at H
        have c35b0 : (t359 == 4) = false := beq_eq_false_iff_ne.mpr c35
        have c35b1 : (t359 != 4) = true := bne_iff_ne.mpr c35
        exact absurd H (by simp)
  case rest =>
    clear HC6
    try clear c1
    try clear c2
    try clear p2
    try clear c3
    try clear c4
    try clear c7
    try clear c11
    try clear c16
    try clear c17
    try clear c19
    try clear c19b0
    try clear c19b1
    try clear c21
    try clear c21b0
    try clear c21b1
    try clear c22
    try clear c22b0
    try clear c23
    try clear c24
    try clear c26
    try clear c30
    try clear c31
    try clear c32
    try clear c35
    try clear c35b0
    try clear c35b1
    try clear hcz12_0
    try clear hcz12_1
    try clear hcz12_2
    try clear hcz13_0
    try clear hcz13_1
    try clear hcz13_2
    try clear hcz18_0
    try clear hcz18_1
    try clear hcz18_2
    try clear hcz25_0
    try clear hcz25_1
    try clear hcz25_2
    try clear hcz27_0
    try clear hcz27_1
    try clear hcz27_2
    try clear hcz33_0
    try clear hcz33_1
    try clear hcz33_2
    try clear hcz34_0
    try clear hcz34_1
    try clear hcz34_2
    try clear hfz12_0
    try clear hfz12_1
    try clear hfz12_2
    try clear hfz13_0
    try clear hfz13_1
    try clear hfz13_2
    try clear hfz18_0
    try clear hfz18_1
    try clear hfz18_2
    try clear hfz25_0
    try clear hfz25_1
    try clear hfz25_2
    try clear hfz27_0
    try clear hfz27_1
    try clear hfz27_2
    try clear hfz33_0
    try clear hfz33_1
    try clear hfz33_2
    try clear hfz34_0
    try clear hfz34_1
    try clear hfz34_2
    obtain ⟨kq, HA, HJ5, BK354, BK355, BK360, HB⟩ := hcut
    cases kq with
    | zero => exact absurd HA.out (by simp [cordonlaw01_ValueBack.j0])
    | succ kj5 =>
      have H := HA.out
      clear HA
      simp only [cordonlaw01_ValueBack.j0] at H
      replace H := Option.bind_eq_some_iff.mp H
      obtain ⟨⟨t366, t367, t368, t369⟩, A360, H⟩ := H
      replace H : ((value_Mod.f t348 t349 t350 t351 t352 t353).bind fun bt371 => (if a1 = 0 then (if t369 = 5 then (if bt371.2.2.2 = 5 then ((cordonlaw01_alive.f).bind fun t376 => (some t376)) else (some false)) else (some false)) else (if bt371.2.2.2 = 0 then (if bt371.2.1 < 0 then (if a0 ≥ 0 then (cordonlaw01_ValueBack.j1 kj5 a1 t369 true t348 t349 t350 t351 t352 t353 t366 t367 t368 bt371.1 bt371.2.1 bt371.2.2.1) else (if bt371.2.1 > 0 then (cordonlaw01_ValueBack.j1 kj5 a1 t369 (decide (a0 ≤ 0)) t348 t349 t350 t351 t352 t353 t366 t367 t368 bt371.1 bt371.2.1 bt371.2.2.1) else (cordonlaw01_ValueBack.j1 kj5 a1 t369 false t348 t349 t350 t351 t352 t353 t366 t367 t368 bt371.1 bt371.2.1 bt371.2.2.1))) else (if bt371.2.1 > 0 then (cordonlaw01_ValueBack.j1 kj5 a1 t369 (decide (a0 ≤ 0)) t348 t349 t350 t351 t352 t353 t366 t367 t368 bt371.1 bt371.2.1 bt371.2.2.1) else (cordonlaw01_ValueBack.j1 kj5 a1 t369 false t348 t349 t350 t351 t352 t353 t366 t367 t368 bt371.1 bt371.2.1 bt371.2.2.1))) else (cordonlaw01_ValueBack.j1 kj5 a1 t369 true t348 t349 t350 t351 t352 t353 t366 t367 t368 bt371.1 bt371.2.1 bt371.2.2.1)))) = some true := H
      have A36 := Aside0.mk A360
      clear A360
      replace H := Option.bind_eq_some_iff.mp H
      obtain ⟨⟨t371, t372, t373, t374⟩, A370, H⟩ := H
      have zm_ := Aside0.mk (mod_gt HLE.out (by assumption) A370)
      replace H : (if a1 = 0 then (if t369 = 5 then (if t374 = 5 then ((cordonlaw01_alive.f).bind fun t376 => (some t376)) else (some false)) else (some false)) else (if t374 = 0 then (if t372 < 0 then (if a0 ≥ 0 then (cordonlaw01_ValueBack.j1 kj5 a1 t369 true t348 t349 t350 t351 t352 t353 t366 t367 t368 t371 t372 t373) else (if t372 > 0 then (cordonlaw01_ValueBack.j1 kj5 a1 t369 (decide (a0 ≤ 0)) t348 t349 t350 t351 t352 t353 t366 t367 t368 t371 t372 t373) else (cordonlaw01_ValueBack.j1 kj5 a1 t369 false t348 t349 t350 t351 t352 t353 t366 t367 t368 t371 t372 t373))) else (if t372 > 0 then (cordonlaw01_ValueBack.j1 kj5 a1 t369 (decide (a0 ≤ 0)) t348 t349 t350 t351 t352 t353 t366 t367 t368 t371 t372 t373) else (cordonlaw01_ValueBack.j1 kj5 a1 t369 false t348 t349 t350 t351 t352 t353 t366 t367 t368 t371 t372 t373))) else (cordonlaw01_ValueBack.j1 kj5 a1 t369 true t348 t349 t350 t351 t352 t353 t366 t367 t368 t371 t372 t373))) = some true := H
      have A37 := Aside0.mk A370
      clear A370
      by_cases c38 : a1 = 0
      · rw [if_pos c38] at H
        have c38b0 : (a1 == 0) = true := beq_iff_eq.mpr c38
        have c38b1 : (a1 != 0) = false := bne_eq_false_iff_eq.mpr c38
        clear c38
        by_cases c39 : t369 = 5
        · rw [if_pos c39] at H
          have c39b0 : (t369 == 5) = true := beq_iff_eq.mpr c39
          have c39b1 : (t369 != 5) = false := bne_eq_false_iff_eq.mpr c39
          clear c39
          by_cases c40 : t374 = 5
          · rw [if_pos c40] at H
            have c40b0 : (t374 == 5) = true := beq_iff_eq.mpr c40
            have c40b1 : (t374 != 5) = false := bne_eq_false_iff_eq.mpr c40
            clear c40
            replace H := Option.bind_eq_some_iff.mp H
            obtain ⟨t376, A410, H⟩ := H
            replace H : (some t376) = some true := H
            have A41 := Aside0.mk A410
            clear A410
            obtain rfl := Option.some.inj H
            have hnb42 := NB354_355.out
            have hnc42 := NB355_354.out
            have hnb43 := NB354_360.out
            have hnc43 := NB360_354.out
            have hcz44_0 : wc.cell? ⟨gb354, 0, none⟩ = some (.int .i64 t348) := (blk_cell BK354.out 0).trans rfl
            have hcz44_1 : wc.cell? ⟨gb354, 1, none⟩ = some (.int .i64 t349) := (blk_cell BK354.out 1).trans rfl
            have hcz44_2 : wc.cell? ⟨gb354, 2, none⟩ = some (.string t350) := (blk_cell BK354.out 2).trans rfl
            have hfz44_0 := blk_frozen BK354.out 0
            have hfz44_1 := blk_frozen BK354.out 1
            have hfz44_2 := blk_frozen BK354.out 2
            have hnb45 := NB355_360.out
            have hnc45 := NB360_355.out
            have hcz46_0 : wc.cell? ⟨gb355, 0, none⟩ = some (.int .i64 t351) := (blk_cell BK355.out 0).trans rfl
            have hcz46_1 : wc.cell? ⟨gb355, 1, none⟩ = some (.int .i64 t352) := (blk_cell BK355.out 1).trans rfl
            have hcz46_2 : wc.cell? ⟨gb355, 2, none⟩ = some (.string t353) := (blk_cell BK355.out 2).trans rfl
            have hfz46_0 := blk_frozen BK355.out 0
            have hfz46_1 := blk_frozen BK355.out 1
            have hfz46_2 := blk_frozen BK355.out 2
            go_wp2_with (first | ((with_reducible refine gate_callee (f := 43) rfl ?_); refine goesL_ (some 50) rfl rfl Try.func43 (by kernel_rfl) rfl #[.agg #[.int .i64 t348, .int .i64 t349, .string t350], .agg #[.int .i64 t351, .int .i64 t352, .string t353]] rfl (by (try simp only [List.map_toArray, List.map_cons, List.map_nil]); first | done | rfl | (simp only [List.length_drop, List.length_take]; rfl)) ?_; (with_reducible refine (value_Div.calls t348 t349 t350 t351 t352 t353 t366 t367 t368 t369 _ A36.out).mono ?_); rintro e w47 ⟨rfl, hb⟩; refine ⟨_, rfl, ?_⟩; have n0_ := Aside0.mk (blk_below (g := gb354) (o := .cells #[.int .i64 t348, .int .i64 t349, .string t350] 33 (0, 0)) (by (with_reducible repeat (first | refine blk_drewN ?_ _ | refine blk_drew ?_ | refine blk_alloc ?_ _)); exact BK354.out) hb); have n1_ := Aside0.mk (blk_below (g := gb355) (o := .cells #[.int .i64 t351, .int .i64 t352, .string t353] 33 (0, 0)) (by (with_reducible repeat (first | refine blk_drewN ?_ _ | refine blk_drew ?_ | refine blk_alloc ?_ _)); exact BK355.out) hb); have n2_ := Aside0.mk (blk_below (g := gb360) (o := .cells #[.int .i64 t356, .int .i64 t357, .string t358] 33 (0, 0)) (by (with_reducible repeat (first | refine blk_drewN ?_ _ | refine blk_drew ?_ | refine blk_alloc ?_ _)); exact BK360.out) hb); have n3_ := Aside0.mk (below_step (by repeat (first | (with_reducible first | exact HB.out | apply below_alloc | apply pw_below_drewN | apply below_drew1 | refine below_set ?_ GE354.out | refine below_set ?_ GE355.out | refine below_set ?_ GE360.out) | exact HB.out)) hb); clear BK354; clear BK355; clear BK360; clear HB; have BK354 := n0_; have BK355 := n1_; have BK360 := n2_; have HB := n3_; clear n0_ n1_ n2_ n3_; (try clear hb); (try clear hb2); (try clear hk); (try clear hi)) | ((with_reducible refine gate_dst (N := 11) rfl ?_); refine box_event ?hg (N := 11) ?hd (cs := #[.int .i64 0, .int .i64 0, .string (⟨#[]⟩ : ByteArray)]) (t := 33) ?hr ?_; (case hd => rfl); (case hg => rfl); (case hr => first | (go_simp; done) | (go_simp; rfl)); intro gb370 hg w48 hbox hb; have n0_ := Aside0.mk (blk_below (g := gb354) (o := .cells #[.int .i64 t348, .int .i64 t349, .string t350] 33 (0, 0)) (by (with_reducible repeat (first | refine blk_drewN ?_ _ | refine blk_drew ?_ | refine blk_alloc ?_ _)); exact BK354.out) hb); have n1_ := Aside0.mk (blk_below (g := gb355) (o := .cells #[.int .i64 t351, .int .i64 t352, .string t353] 33 (0, 0)) (by (with_reducible repeat (first | refine blk_drewN ?_ _ | refine blk_drew ?_ | refine blk_alloc ?_ _)); exact BK355.out) hb); have n2_ := Aside0.mk (blk_below (g := gb360) (o := .cells #[.int .i64 t356, .int .i64 t357, .string t358] 33 (0, 0)) (by (with_reducible repeat (first | refine blk_drewN ?_ _ | refine blk_drew ?_ | refine blk_alloc ?_ _)); exact BK360.out) hb); have n3_ := Aside0.mk (below_step (by repeat (first | (with_reducible first | exact HB.out | apply below_alloc | apply pw_below_drewN | apply below_drew1 | refine below_set ?_ GE354.out | refine below_set ?_ GE355.out | refine below_set ?_ GE360.out) | exact HB.out)) hb); have n4_ := Aside0.mk (hbox); have n5_ := Aside0.mk ((by rw [hg]; exact (below_size (by repeat (first | (with_reducible first | exact HB.out | apply below_alloc | apply pw_below_drewN | apply below_drew1 | refine below_set ?_ GE354.out | refine below_set ?_ GE355.out | refine below_set ?_ GE360.out) | exact HB.out))) : w.heap.size ≤ gb370)); have n6_ := Aside0.mk ((by rw [hg]; exact (below_size (by repeat (first | (with_reducible first | exact HB.out | apply below_alloc | apply pw_below_drewN | apply below_drew1 | refine below_set ?_ GE354.out | refine below_set ?_ GE355.out | refine below_set ?_ GE360.out) | exact HB.out))) : w.heap.size ≤ gb370)); have n7_ := Aside0.mk ((by rw [hg]; exact Nat.ne_of_lt (blk_lt (g := gb354) (o := .cells #[.int .i64 t348, .int .i64 t349, .string t350] 33 (0, 0)) (by (with_reducible repeat (first | refine blk_drewN ?_ _ | refine blk_drew ?_ | refine blk_alloc ?_ _)); exact BK354.out)) : gb354 ≠ gb370)); have n8_ := Aside0.mk ((by rw [hg]; exact Nat.ne_of_gt (blk_lt (g := gb354) (o := .cells #[.int .i64 t348, .int .i64 t349, .string t350] 33 (0, 0)) (by (with_reducible repeat (first | refine blk_drewN ?_ _ | refine blk_drew ?_ | refine blk_alloc ?_ _)); exact BK354.out)) : gb370 ≠ gb354)); have n9_ := Aside0.mk ((by rw [hg]; exact Nat.ne_of_lt (blk_lt (g := gb355) (o := .cells #[.int .i64 t351, .int .i64 t352, .string t353] 33 (0, 0)) (by (with_reducible repeat (first | refine blk_drewN ?_ _ | refine blk_drew ?_ | refine blk_alloc ?_ _)); exact BK355.out)) : gb355 ≠ gb370)); have n10_ := Aside0.mk ((by rw [hg]; exact Nat.ne_of_gt (blk_lt (g := gb355) (o := .cells #[.int .i64 t351, .int .i64 t352, .string t353] 33 (0, 0)) (by (with_reducible repeat (first | refine blk_drewN ?_ _ | refine blk_drew ?_ | refine blk_alloc ?_ _)); exact BK355.out)) : gb370 ≠ gb355)); have n11_ := Aside0.mk ((by rw [hg]; exact Nat.ne_of_lt (blk_lt (g := gb360) (o := .cells #[.int .i64 t356, .int .i64 t357, .string t358] 33 (0, 0)) (by (with_reducible repeat (first | refine blk_drewN ?_ _ | refine blk_drew ?_ | refine blk_alloc ?_ _)); exact BK360.out)) : gb360 ≠ gb370)); have n12_ := Aside0.mk ((by rw [hg]; exact Nat.ne_of_gt (blk_lt (g := gb360) (o := .cells #[.int .i64 t356, .int .i64 t357, .string t358] 33 (0, 0)) (by (with_reducible repeat (first | refine blk_drewN ?_ _ | refine blk_drew ?_ | refine blk_alloc ?_ _)); exact BK360.out)) : gb370 ≠ gb360)); clear BK354; clear BK355; clear BK360; clear HB; have BK354 := n0_; have BK355 := n1_; have BK360 := n2_; have HB := n3_; have BK370 := n4_; have GW370 := n5_; have GE370 := n6_; have NB354_370 := n7_; have NB370_354 := n8_; have NB355_370 := n9_; have NB370_355 := n10_; have NB360_370 := n11_; have NB370_360 := n12_; clear n0_ n1_ n2_ n3_ n4_ n5_ n6_ n7_ n8_ n9_ n10_ n11_ n12_; clear hb hbox hg; have hnb49 := NB370_354.out; have hnc49 := NB354_370.out; have hnb50 := NB370_355.out; have hnc50 := NB355_370.out; have hnb51 := NB370_360.out; have hnc51 := NB360_370.out; have hcz52_0 : w48.cell? ⟨gb370, 0, none⟩ = some (.int .i64 0) := (blk_cell BK370.out 0).trans rfl; have hcz52_1 : w48.cell? ⟨gb370, 1, none⟩ = some (.int .i64 0) := (blk_cell BK370.out 1).trans rfl; have hcz52_2 : w48.cell? ⟨gb370, 2, none⟩ = some (.string (⟨#[]⟩ : ByteArray)) := (blk_cell BK370.out 2).trans rfl; have hfz52_0 := blk_frozen BK370.out 0; have hfz52_1 := blk_frozen BK370.out 1; have hfz52_2 := blk_frozen BK370.out 2; have hcz53_0 : w48.cell? ⟨gb354, 0, none⟩ = some (.int .i64 t348) := (blk_cell BK354.out 0).trans rfl; have hcz53_1 : w48.cell? ⟨gb354, 1, none⟩ = some (.int .i64 t349) := (blk_cell BK354.out 1).trans rfl; have hcz53_2 : w48.cell? ⟨gb354, 2, none⟩ = some (.string t350) := (blk_cell BK354.out 2).trans rfl; have hfz53_0 := blk_frozen BK354.out 0; have hfz53_1 := blk_frozen BK354.out 1; have hfz53_2 := blk_frozen BK354.out 2; have hcz54_0 : w48.cell? ⟨gb355, 0, none⟩ = some (.int .i64 t351) := (blk_cell BK355.out 0).trans rfl; have hcz54_1 : w48.cell? ⟨gb355, 1, none⟩ = some (.int .i64 t352) := (blk_cell BK355.out 1).trans rfl; have hcz54_2 : w48.cell? ⟨gb355, 2, none⟩ = some (.string t353) := (blk_cell BK355.out 2).trans rfl; have hfz54_0 := blk_frozen BK355.out 0; have hfz54_1 := blk_frozen BK355.out 1; have hfz54_2 := blk_frozen BK355.out 2) | ((with_reducible refine gate_callee (f := 46) rfl ?_); refine goesL_ (some 56) rfl rfl Try.func46 (by kernel_rfl) rfl #[.agg #[.int .i64 t348, .int .i64 t349, .string t350], .agg #[.int .i64 t351, .int .i64 t352, .string t353]] rfl (by (try simp only [List.map_toArray, List.map_cons, List.map_nil]); first | done | rfl | (simp only [List.length_drop, List.length_take]; rfl)) ?_; (with_reducible refine (value_Mod.calls t348 t349 t350 t351 t352 t353 t371 t372 t373 t374 _ A37.out).mono ?_); rintro e w55 ⟨rfl, hb⟩; refine ⟨_, rfl, ?_⟩; have n0_ := Aside0.mk (blk_below (g := gb354) (o := .cells #[.int .i64 t348, .int .i64 t349, .string t350] 33 (0, 0)) (by (with_reducible repeat (first | refine blk_drewN ?_ _ | refine blk_drew ?_ | refine blk_alloc ?_ _)); refine blk_far ?_ NB354_370.out _; (with_reducible repeat (first | refine blk_drewN ?_ _ | refine blk_drew ?_ | refine blk_alloc ?_ _)); refine blk_far ?_ NB354_370.out _; (with_reducible repeat (first | refine blk_drewN ?_ _ | refine blk_drew ?_ | refine blk_alloc ?_ _)); refine blk_far ?_ NB354_370.out _; (with_reducible repeat (first | refine blk_drewN ?_ _ | refine blk_drew ?_ | refine blk_alloc ?_ _)); exact BK354.out) hb); have n1_ := Aside0.mk (blk_below (g := gb355) (o := .cells #[.int .i64 t351, .int .i64 t352, .string t353] 33 (0, 0)) (by (with_reducible repeat (first | refine blk_drewN ?_ _ | refine blk_drew ?_ | refine blk_alloc ?_ _)); refine blk_far ?_ NB355_370.out _; (with_reducible repeat (first | refine blk_drewN ?_ _ | refine blk_drew ?_ | refine blk_alloc ?_ _)); refine blk_far ?_ NB355_370.out _; (with_reducible repeat (first | refine blk_drewN ?_ _ | refine blk_drew ?_ | refine blk_alloc ?_ _)); refine blk_far ?_ NB355_370.out _; (with_reducible repeat (first | refine blk_drewN ?_ _ | refine blk_drew ?_ | refine blk_alloc ?_ _)); exact BK355.out) hb); have n2_ := Aside0.mk (blk_below (g := gb360) (o := .cells #[.int .i64 t356, .int .i64 t357, .string t358] 33 (0, 0)) (by (with_reducible repeat (first | refine blk_drewN ?_ _ | refine blk_drew ?_ | refine blk_alloc ?_ _)); refine blk_far ?_ NB360_370.out _; (with_reducible repeat (first | refine blk_drewN ?_ _ | refine blk_drew ?_ | refine blk_alloc ?_ _)); refine blk_far ?_ NB360_370.out _; (with_reducible repeat (first | refine blk_drewN ?_ _ | refine blk_drew ?_ | refine blk_alloc ?_ _)); refine blk_far ?_ NB360_370.out _; (with_reducible repeat (first | refine blk_drewN ?_ _ | refine blk_drew ?_ | refine blk_alloc ?_ _)); exact BK360.out) hb); have n3_ := Aside0.mk (blk_below (g := gb370) (o := .cells #[.int .i64 t366, .int .i64 t367, .string t368] 33 (0, 0)) (by (with_reducible repeat (first | refine blk_drewN ?_ _ | refine blk_drew ?_ | refine blk_alloc ?_ _)); refine blk_put (cs := #[.int .i64 t366, .int .i64 t367, .string (⟨#[]⟩ : ByteArray)]) ?_ 2 _ rfl; (with_reducible repeat (first | refine blk_drewN ?_ _ | refine blk_drew ?_ | refine blk_alloc ?_ _)); refine blk_put (cs := #[.int .i64 t366, .int .i64 0, .string (⟨#[]⟩ : ByteArray)]) ?_ 1 _ rfl; (with_reducible repeat (first | refine blk_drewN ?_ _ | refine blk_drew ?_ | refine blk_alloc ?_ _)); refine blk_put (cs := #[.int .i64 0, .int .i64 0, .string (⟨#[]⟩ : ByteArray)]) ?_ 0 _ rfl; (with_reducible repeat (first | refine blk_drewN ?_ _ | refine blk_drew ?_ | refine blk_alloc ?_ _)); exact BK370.out) hb); have n4_ := Aside0.mk (below_step (by repeat (first | (with_reducible first | exact HB.out | apply below_alloc | apply pw_below_drewN | apply below_drew1 | refine below_set ?_ GE354.out | refine below_set ?_ GE355.out | refine below_set ?_ GE360.out | refine below_set ?_ GE370.out) | exact HB.out)) hb); clear BK354; clear BK355; clear BK360; clear BK370; clear HB; have BK354 := n0_; have BK355 := n1_; have BK360 := n2_; have BK370 := n3_; have HB := n4_; clear n0_ n1_ n2_ n3_ n4_; (try clear hb); (try clear hb2); (try clear hk); (try clear hi)) | ((with_reducible refine gate_dst (N := 13) rfl ?_); refine box_event ?hg (N := 13) ?hd (cs := #[.int .i64 0, .int .i64 0, .string (⟨#[]⟩ : ByteArray)]) (t := 33) ?hr ?_; (case hd => rfl); (case hg => rfl); (case hr => first | (go_simp; done) | (go_simp; rfl)); intro gb375 hg w56 hbox hb; have n0_ := Aside0.mk (blk_below (g := gb354) (o := .cells #[.int .i64 t348, .int .i64 t349, .string t350] 33 (0, 0)) (by (with_reducible repeat (first | refine blk_drewN ?_ _ | refine blk_drew ?_ | refine blk_alloc ?_ _)); exact BK354.out) hb); have n1_ := Aside0.mk (blk_below (g := gb355) (o := .cells #[.int .i64 t351, .int .i64 t352, .string t353] 33 (0, 0)) (by (with_reducible repeat (first | refine blk_drewN ?_ _ | refine blk_drew ?_ | refine blk_alloc ?_ _)); exact BK355.out) hb); have n2_ := Aside0.mk (blk_below (g := gb360) (o := .cells #[.int .i64 t356, .int .i64 t357, .string t358] 33 (0, 0)) (by (with_reducible repeat (first | refine blk_drewN ?_ _ | refine blk_drew ?_ | refine blk_alloc ?_ _)); exact BK360.out) hb); have n3_ := Aside0.mk (blk_below (g := gb370) (o := .cells #[.int .i64 t366, .int .i64 t367, .string t368] 33 (0, 0)) (by (with_reducible repeat (first | refine blk_drewN ?_ _ | refine blk_drew ?_ | refine blk_alloc ?_ _)); exact BK370.out) hb); have n4_ := Aside0.mk (below_step (by repeat (first | (with_reducible first | exact HB.out | apply below_alloc | apply pw_below_drewN | apply below_drew1 | refine below_set ?_ GE354.out | refine below_set ?_ GE355.out | refine below_set ?_ GE360.out | refine below_set ?_ GE370.out) | exact HB.out)) hb); have n5_ := Aside0.mk (hbox); have n6_ := Aside0.mk ((by rw [hg]; exact (below_size (by repeat (first | (with_reducible first | exact HB.out | apply below_alloc | apply pw_below_drewN | apply below_drew1 | refine below_set ?_ GE354.out | refine below_set ?_ GE355.out | refine below_set ?_ GE360.out | refine below_set ?_ GE370.out) | exact HB.out))) : w.heap.size ≤ gb375)); have n7_ := Aside0.mk ((by rw [hg]; exact (below_size (by repeat (first | (with_reducible first | exact HB.out | apply below_alloc | apply pw_below_drewN | apply below_drew1 | refine below_set ?_ GE354.out | refine below_set ?_ GE355.out | refine below_set ?_ GE360.out | refine below_set ?_ GE370.out) | exact HB.out))) : w.heap.size ≤ gb375)); have n8_ := Aside0.mk ((by rw [hg]; exact Nat.ne_of_lt (blk_lt (g := gb354) (o := .cells #[.int .i64 t348, .int .i64 t349, .string t350] 33 (0, 0)) (by (with_reducible repeat (first | refine blk_drewN ?_ _ | refine blk_drew ?_ | refine blk_alloc ?_ _)); exact BK354.out)) : gb354 ≠ gb375)); have n9_ := Aside0.mk ((by rw [hg]; exact Nat.ne_of_gt (blk_lt (g := gb354) (o := .cells #[.int .i64 t348, .int .i64 t349, .string t350] 33 (0, 0)) (by (with_reducible repeat (first | refine blk_drewN ?_ _ | refine blk_drew ?_ | refine blk_alloc ?_ _)); exact BK354.out)) : gb375 ≠ gb354)); have n10_ := Aside0.mk ((by rw [hg]; exact Nat.ne_of_lt (blk_lt (g := gb355) (o := .cells #[.int .i64 t351, .int .i64 t352, .string t353] 33 (0, 0)) (by (with_reducible repeat (first | refine blk_drewN ?_ _ | refine blk_drew ?_ | refine blk_alloc ?_ _)); exact BK355.out)) : gb355 ≠ gb375)); have n11_ := Aside0.mk ((by rw [hg]; exact Nat.ne_of_gt (blk_lt (g := gb355) (o := .cells #[.int .i64 t351, .int .i64 t352, .string t353] 33 (0, 0)) (by (with_reducible repeat (first | refine blk_drewN ?_ _ | refine blk_drew ?_ | refine blk_alloc ?_ _)); exact BK355.out)) : gb375 ≠ gb355)); have n12_ := Aside0.mk ((by rw [hg]; exact Nat.ne_of_lt (blk_lt (g := gb360) (o := .cells #[.int .i64 t356, .int .i64 t357, .string t358] 33 (0, 0)) (by (with_reducible repeat (first | refine blk_drewN ?_ _ | refine blk_drew ?_ | refine blk_alloc ?_ _)); exact BK360.out)) : gb360 ≠ gb375)); have n13_ := Aside0.mk ((by rw [hg]; exact Nat.ne_of_gt (blk_lt (g := gb360) (o := .cells #[.int .i64 t356, .int .i64 t357, .string t358] 33 (0, 0)) (by (with_reducible repeat (first | refine blk_drewN ?_ _ | refine blk_drew ?_ | refine blk_alloc ?_ _)); exact BK360.out)) : gb375 ≠ gb360)); have n14_ := Aside0.mk ((by rw [hg]; exact Nat.ne_of_lt (blk_lt (g := gb370) (o := .cells #[.int .i64 t366, .int .i64 t367, .string t368] 33 (0, 0)) (by (with_reducible repeat (first | refine blk_drewN ?_ _ | refine blk_drew ?_ | refine blk_alloc ?_ _)); exact BK370.out)) : gb370 ≠ gb375)); have n15_ := Aside0.mk ((by rw [hg]; exact Nat.ne_of_gt (blk_lt (g := gb370) (o := .cells #[.int .i64 t366, .int .i64 t367, .string t368] 33 (0, 0)) (by (with_reducible repeat (first | refine blk_drewN ?_ _ | refine blk_drew ?_ | refine blk_alloc ?_ _)); exact BK370.out)) : gb375 ≠ gb370)); clear BK354; clear BK355; clear BK360; clear BK370; clear HB; have BK354 := n0_; have BK355 := n1_; have BK360 := n2_; have BK370 := n3_; have HB := n4_; have BK375 := n5_; have GW375 := n6_; have GE375 := n7_; have NB354_375 := n8_; have NB375_354 := n9_; have NB355_375 := n10_; have NB375_355 := n11_; have NB360_375 := n12_; have NB375_360 := n13_; have NB370_375 := n14_; have NB375_370 := n15_; clear n0_ n1_ n2_ n3_ n4_ n5_ n6_ n7_ n8_ n9_ n10_ n11_ n12_ n13_ n14_ n15_; clear hb hbox hg; have hnb57 := NB375_354.out; have hnc57 := NB354_375.out; have hnb58 := NB375_355.out; have hnc58 := NB355_375.out; have hnb59 := NB375_360.out; have hnc59 := NB360_375.out; have hnb60 := NB375_370.out; have hnc60 := NB370_375.out; have hcz61_0 : w56.cell? ⟨gb375, 0, none⟩ = some (.int .i64 0) := (blk_cell BK375.out 0).trans rfl; have hcz61_1 : w56.cell? ⟨gb375, 1, none⟩ = some (.int .i64 0) := (blk_cell BK375.out 1).trans rfl; have hcz61_2 : w56.cell? ⟨gb375, 2, none⟩ = some (.string (⟨#[]⟩ : ByteArray)) := (blk_cell BK375.out 2).trans rfl; have hfz61_0 := blk_frozen BK375.out 0; have hfz61_1 := blk_frozen BK375.out 1; have hfz61_2 := blk_frozen BK375.out 2) | (go_at_call 25; (with_reducible refine (cordonlaw01_alive.calls  true _ A41.out).mono ?_); rintro e w62 ⟨rfl, hb⟩; have n0_ := Aside0.mk (blk_below (g := gb354) (o := .cells #[.int .i64 t348, .int .i64 t349, .string t350] 33 (0, 0)) (by (with_reducible repeat (first | refine blk_drewN ?_ _ | refine blk_drew ?_ | refine blk_alloc ?_ _)); refine blk_far ?_ NB354_375.out _; (with_reducible repeat (first | refine blk_drewN ?_ _ | refine blk_drew ?_ | refine blk_alloc ?_ _)); refine blk_far ?_ NB354_375.out _; (with_reducible repeat (first | refine blk_drewN ?_ _ | refine blk_drew ?_ | refine blk_alloc ?_ _)); refine blk_far ?_ NB354_375.out _; (with_reducible repeat (first | refine blk_drewN ?_ _ | refine blk_drew ?_ | refine blk_alloc ?_ _)); exact BK354.out) hb); have n1_ := Aside0.mk (blk_below (g := gb355) (o := .cells #[.int .i64 t351, .int .i64 t352, .string t353] 33 (0, 0)) (by (with_reducible repeat (first | refine blk_drewN ?_ _ | refine blk_drew ?_ | refine blk_alloc ?_ _)); refine blk_far ?_ NB355_375.out _; (with_reducible repeat (first | refine blk_drewN ?_ _ | refine blk_drew ?_ | refine blk_alloc ?_ _)); refine blk_far ?_ NB355_375.out _; (with_reducible repeat (first | refine blk_drewN ?_ _ | refine blk_drew ?_ | refine blk_alloc ?_ _)); refine blk_far ?_ NB355_375.out _; (with_reducible repeat (first | refine blk_drewN ?_ _ | refine blk_drew ?_ | refine blk_alloc ?_ _)); exact BK355.out) hb); have n2_ := Aside0.mk (blk_below (g := gb360) (o := .cells #[.int .i64 t356, .int .i64 t357, .string t358] 33 (0, 0)) (by (with_reducible repeat (first | refine blk_drewN ?_ _ | refine blk_drew ?_ | refine blk_alloc ?_ _)); refine blk_far ?_ NB360_375.out _; (with_reducible repeat (first | refine blk_drewN ?_ _ | refine blk_drew ?_ | refine blk_alloc ?_ _)); refine blk_far ?_ NB360_375.out _; (with_reducible repeat (first | refine blk_drewN ?_ _ | refine blk_drew ?_ | refine blk_alloc ?_ _)); refine blk_far ?_ NB360_375.out _; (with_reducible repeat (first | refine blk_drewN ?_ _ | refine blk_drew ?_ | refine blk_alloc ?_ _)); exact BK360.out) hb); have n3_ := Aside0.mk (blk_below (g := gb370) (o := .cells #[.int .i64 t366, .int .i64 t367, .string t368] 33 (0, 0)) (by (with_reducible repeat (first | refine blk_drewN ?_ _ | refine blk_drew ?_ | refine blk_alloc ?_ _)); refine blk_far ?_ NB370_375.out _; (with_reducible repeat (first | refine blk_drewN ?_ _ | refine blk_drew ?_ | refine blk_alloc ?_ _)); refine blk_far ?_ NB370_375.out _; (with_reducible repeat (first | refine blk_drewN ?_ _ | refine blk_drew ?_ | refine blk_alloc ?_ _)); refine blk_far ?_ NB370_375.out _; (with_reducible repeat (first | refine blk_drewN ?_ _ | refine blk_drew ?_ | refine blk_alloc ?_ _)); exact BK370.out) hb); have n4_ := Aside0.mk (blk_below (g := gb375) (o := .cells #[.int .i64 t371, .int .i64 t372, .string t373] 33 (0, 0)) (by (with_reducible repeat (first | refine blk_drewN ?_ _ | refine blk_drew ?_ | refine blk_alloc ?_ _)); refine blk_put (cs := #[.int .i64 t371, .int .i64 t372, .string (⟨#[]⟩ : ByteArray)]) ?_ 2 _ rfl; (with_reducible repeat (first | refine blk_drewN ?_ _ | refine blk_drew ?_ | refine blk_alloc ?_ _)); refine blk_put (cs := #[.int .i64 t371, .int .i64 0, .string (⟨#[]⟩ : ByteArray)]) ?_ 1 _ rfl; (with_reducible repeat (first | refine blk_drewN ?_ _ | refine blk_drew ?_ | refine blk_alloc ?_ _)); refine blk_put (cs := #[.int .i64 0, .int .i64 0, .string (⟨#[]⟩ : ByteArray)]) ?_ 0 _ rfl; (with_reducible repeat (first | refine blk_drewN ?_ _ | refine blk_drew ?_ | refine blk_alloc ?_ _)); exact BK375.out) hb); have n5_ := Aside0.mk (below_step (by repeat (first | (with_reducible first | exact HB.out | apply below_alloc | apply pw_below_drewN | apply below_drew1 | refine below_set ?_ GE354.out | refine below_set ?_ GE355.out | refine below_set ?_ GE360.out | refine below_set ?_ GE370.out | refine below_set ?_ GE375.out) | exact HB.out)) hb); clear BK354; clear BK355; clear BK360; clear BK370; clear BK375; clear HB; have BK354 := n0_; have BK355 := n1_; have BK360 := n2_; have BK370 := n3_; have BK375 := n4_; have HB := n5_; clear n0_ n1_ n2_ n3_ n4_ n5_; (try clear hb); (try clear hb2); (try clear hk); (try clear hi)))
            go_ret
            exact ⟨by first | rfl | (simp [errW_none, errW_some] <;> rfl) | (simp [*, errW_none, errW_some] <;> rfl), by repeat (first | (with_reducible first | exact HB.out | apply below_alloc | apply pw_below_drewN | apply below_drew1 | refine below_set ?_ GE354.out | refine below_set ?_ GE355.out | refine below_set ?_ GE360.out | refine below_set ?_ GE370.out | refine below_set ?_ GE375.out) | exact HB.out)⟩
          · rw [if_neg c40] at H
            have c40b0 : (t374 == 5) = false := beq_eq_false_iff_ne.mpr c40
            have c40b1 : (t374 != 5) = true := bne_iff_ne.mpr c40
            exact absurd H (by simp)
        · rw [if_neg c39] at H
          have c39b0 : (t369 == 5) = false := beq_eq_false_iff_ne.mpr c39
          have c39b1 : (t369 != 5) = true := bne_iff_ne.mpr c39
          exact absurd H (by simp)
      · rw [if_neg c38] at H
        have c38b0 : (a1 == 0) = false := beq_eq_false_iff_ne.mpr c38
        have c38b1 : (a1 != 0) = true := bne_iff_ne.mpr c38
        have HC63 := Aside0.mk H
        clear H
        have hnb64 := NB354_355.out
        have hnc64 := NB355_354.out
        have hnb65 := NB354_360.out
        have hnc65 := NB360_354.out
        have hcz66_0 : wc.cell? ⟨gb354, 0, none⟩ = some (.int .i64 t348) := (blk_cell BK354.out 0).trans rfl
        have hcz66_1 : wc.cell? ⟨gb354, 1, none⟩ = some (.int .i64 t349) := (blk_cell BK354.out 1).trans rfl
        have hcz66_2 : wc.cell? ⟨gb354, 2, none⟩ = some (.string t350) := (blk_cell BK354.out 2).trans rfl
        have hfz66_0 := blk_frozen BK354.out 0
        have hfz66_1 := blk_frozen BK354.out 1
        have hfz66_2 := blk_frozen BK354.out 2
        have hnb67 := NB355_360.out
        have hnc67 := NB360_355.out
        have hcz68_0 : wc.cell? ⟨gb355, 0, none⟩ = some (.int .i64 t351) := (blk_cell BK355.out 0).trans rfl
        have hcz68_1 : wc.cell? ⟨gb355, 1, none⟩ = some (.int .i64 t352) := (blk_cell BK355.out 1).trans rfl
        have hcz68_2 : wc.cell? ⟨gb355, 2, none⟩ = some (.string t353) := (blk_cell BK355.out 2).trans rfl
        have hfz68_0 := blk_frozen BK355.out 0
        have hfz68_1 := blk_frozen BK355.out 1
        have hfz68_2 := blk_frozen BK355.out 2
        go_upto_region 13 with (first | ((with_reducible refine gate_callee (f := 43) rfl ?_); refine goesL_ (some 50) rfl rfl Try.func43 (by kernel_rfl) rfl #[.agg #[.int .i64 t348, .int .i64 t349, .string t350], .agg #[.int .i64 t351, .int .i64 t352, .string t353]] rfl (by (try simp only [List.map_toArray, List.map_cons, List.map_nil]); first | done | rfl | (simp only [List.length_drop, List.length_take]; rfl)) ?_; (with_reducible refine (value_Div.calls t348 t349 t350 t351 t352 t353 t366 t367 t368 t369 _ A36.out).mono ?_); rintro e w69 ⟨rfl, hb⟩; refine ⟨_, rfl, ?_⟩; have n0_ := Aside0.mk (blk_below (g := gb354) (o := .cells #[.int .i64 t348, .int .i64 t349, .string t350] 33 (0, 0)) (by (with_reducible repeat (first | refine blk_drewN ?_ _ | refine blk_drew ?_ | refine blk_alloc ?_ _)); exact BK354.out) hb); have n1_ := Aside0.mk (blk_below (g := gb355) (o := .cells #[.int .i64 t351, .int .i64 t352, .string t353] 33 (0, 0)) (by (with_reducible repeat (first | refine blk_drewN ?_ _ | refine blk_drew ?_ | refine blk_alloc ?_ _)); exact BK355.out) hb); have n2_ := Aside0.mk (blk_below (g := gb360) (o := .cells #[.int .i64 t356, .int .i64 t357, .string t358] 33 (0, 0)) (by (with_reducible repeat (first | refine blk_drewN ?_ _ | refine blk_drew ?_ | refine blk_alloc ?_ _)); exact BK360.out) hb); have n3_ := Aside0.mk (below_step (by repeat (first | (with_reducible first | exact HB.out | apply below_alloc | apply pw_below_drewN | apply below_drew1 | refine below_set ?_ GE354.out | refine below_set ?_ GE355.out | refine below_set ?_ GE360.out) | exact HB.out)) hb); clear BK354; clear BK355; clear BK360; clear HB; have BK354 := n0_; have BK355 := n1_; have BK360 := n2_; have HB := n3_; clear n0_ n1_ n2_ n3_; (try clear hb); (try clear hb2); (try clear hk); (try clear hi)) | ((with_reducible refine gate_dst (N := 11) rfl ?_); refine box_event ?hg (N := 11) ?hd (cs := #[.int .i64 0, .int .i64 0, .string (⟨#[]⟩ : ByteArray)]) (t := 33) ?hr ?_; (case hd => rfl); (case hg => rfl); (case hr => first | (go_simp; done) | (go_simp; rfl)); intro gb370 hg w70 hbox hb; have n0_ := Aside0.mk (blk_below (g := gb354) (o := .cells #[.int .i64 t348, .int .i64 t349, .string t350] 33 (0, 0)) (by (with_reducible repeat (first | refine blk_drewN ?_ _ | refine blk_drew ?_ | refine blk_alloc ?_ _)); exact BK354.out) hb); have n1_ := Aside0.mk (blk_below (g := gb355) (o := .cells #[.int .i64 t351, .int .i64 t352, .string t353] 33 (0, 0)) (by (with_reducible repeat (first | refine blk_drewN ?_ _ | refine blk_drew ?_ | refine blk_alloc ?_ _)); exact BK355.out) hb); have n2_ := Aside0.mk (blk_below (g := gb360) (o := .cells #[.int .i64 t356, .int .i64 t357, .string t358] 33 (0, 0)) (by (with_reducible repeat (first | refine blk_drewN ?_ _ | refine blk_drew ?_ | refine blk_alloc ?_ _)); exact BK360.out) hb); have n3_ := Aside0.mk (below_step (by repeat (first | (with_reducible first | exact HB.out | apply below_alloc | apply pw_below_drewN | apply below_drew1 | refine below_set ?_ GE354.out | refine below_set ?_ GE355.out | refine below_set ?_ GE360.out) | exact HB.out)) hb); have n4_ := Aside0.mk (hbox); have n5_ := Aside0.mk ((by rw [hg]; exact (below_size (by repeat (first | (with_reducible first | exact HB.out | apply below_alloc | apply pw_below_drewN | apply below_drew1 | refine below_set ?_ GE354.out | refine below_set ?_ GE355.out | refine below_set ?_ GE360.out) | exact HB.out))) : w.heap.size ≤ gb370)); have n6_ := Aside0.mk ((by rw [hg]; exact (below_size (by repeat (first | (with_reducible first | exact HB.out | apply below_alloc | apply pw_below_drewN | apply below_drew1 | refine below_set ?_ GE354.out | refine below_set ?_ GE355.out | refine below_set ?_ GE360.out) | exact HB.out))) : w.heap.size ≤ gb370)); have n7_ := Aside0.mk ((by rw [hg]; exact Nat.ne_of_lt (blk_lt (g := gb354) (o := .cells #[.int .i64 t348, .int .i64 t349, .string t350] 33 (0, 0)) (by (with_reducible repeat (first | refine blk_drewN ?_ _ | refine blk_drew ?_ | refine blk_alloc ?_ _)); exact BK354.out)) : gb354 ≠ gb370)); have n8_ := Aside0.mk ((by rw [hg]; exact Nat.ne_of_gt (blk_lt (g := gb354) (o := .cells #[.int .i64 t348, .int .i64 t349, .string t350] 33 (0, 0)) (by (with_reducible repeat (first | refine blk_drewN ?_ _ | refine blk_drew ?_ | refine blk_alloc ?_ _)); exact BK354.out)) : gb370 ≠ gb354)); have n9_ := Aside0.mk ((by rw [hg]; exact Nat.ne_of_lt (blk_lt (g := gb355) (o := .cells #[.int .i64 t351, .int .i64 t352, .string t353] 33 (0, 0)) (by (with_reducible repeat (first | refine blk_drewN ?_ _ | refine blk_drew ?_ | refine blk_alloc ?_ _)); exact BK355.out)) : gb355 ≠ gb370)); have n10_ := Aside0.mk ((by rw [hg]; exact Nat.ne_of_gt (blk_lt (g := gb355) (o := .cells #[.int .i64 t351, .int .i64 t352, .string t353] 33 (0, 0)) (by (with_reducible repeat (first | refine blk_drewN ?_ _ | refine blk_drew ?_ | refine blk_alloc ?_ _)); exact BK355.out)) : gb370 ≠ gb355)); have n11_ := Aside0.mk ((by rw [hg]; exact Nat.ne_of_lt (blk_lt (g := gb360) (o := .cells #[.int .i64 t356, .int .i64 t357, .string t358] 33 (0, 0)) (by (with_reducible repeat (first | refine blk_drewN ?_ _ | refine blk_drew ?_ | refine blk_alloc ?_ _)); exact BK360.out)) : gb360 ≠ gb370)); have n12_ := Aside0.mk ((by rw [hg]; exact Nat.ne_of_gt (blk_lt (g := gb360) (o := .cells #[.int .i64 t356, .int .i64 t357, .string t358] 33 (0, 0)) (by (with_reducible repeat (first | refine blk_drewN ?_ _ | refine blk_drew ?_ | refine blk_alloc ?_ _)); exact BK360.out)) : gb370 ≠ gb360)); clear BK354; clear BK355; clear BK360; clear HB; have BK354 := n0_; have BK355 := n1_; have BK360 := n2_; have HB := n3_; have BK370 := n4_; have GW370 := n5_; have GE370 := n6_; have NB354_370 := n7_; have NB370_354 := n8_; have NB355_370 := n9_; have NB370_355 := n10_; have NB360_370 := n11_; have NB370_360 := n12_; clear n0_ n1_ n2_ n3_ n4_ n5_ n6_ n7_ n8_ n9_ n10_ n11_ n12_; clear hb hbox hg; have hnb71 := NB370_354.out; have hnc71 := NB354_370.out; have hnb72 := NB370_355.out; have hnc72 := NB355_370.out; have hnb73 := NB370_360.out; have hnc73 := NB360_370.out; have hcz74_0 : w70.cell? ⟨gb370, 0, none⟩ = some (.int .i64 0) := (blk_cell BK370.out 0).trans rfl; have hcz74_1 : w70.cell? ⟨gb370, 1, none⟩ = some (.int .i64 0) := (blk_cell BK370.out 1).trans rfl; have hcz74_2 : w70.cell? ⟨gb370, 2, none⟩ = some (.string (⟨#[]⟩ : ByteArray)) := (blk_cell BK370.out 2).trans rfl; have hfz74_0 := blk_frozen BK370.out 0; have hfz74_1 := blk_frozen BK370.out 1; have hfz74_2 := blk_frozen BK370.out 2; have hcz75_0 : w70.cell? ⟨gb354, 0, none⟩ = some (.int .i64 t348) := (blk_cell BK354.out 0).trans rfl; have hcz75_1 : w70.cell? ⟨gb354, 1, none⟩ = some (.int .i64 t349) := (blk_cell BK354.out 1).trans rfl; have hcz75_2 : w70.cell? ⟨gb354, 2, none⟩ = some (.string t350) := (blk_cell BK354.out 2).trans rfl; have hfz75_0 := blk_frozen BK354.out 0; have hfz75_1 := blk_frozen BK354.out 1; have hfz75_2 := blk_frozen BK354.out 2; have hcz76_0 : w70.cell? ⟨gb355, 0, none⟩ = some (.int .i64 t351) := (blk_cell BK355.out 0).trans rfl; have hcz76_1 : w70.cell? ⟨gb355, 1, none⟩ = some (.int .i64 t352) := (blk_cell BK355.out 1).trans rfl; have hcz76_2 : w70.cell? ⟨gb355, 2, none⟩ = some (.string t353) := (blk_cell BK355.out 2).trans rfl; have hfz76_0 := blk_frozen BK355.out 0; have hfz76_1 := blk_frozen BK355.out 1; have hfz76_2 := blk_frozen BK355.out 2) | ((with_reducible refine gate_callee (f := 46) rfl ?_); refine goesL_ (some 56) rfl rfl Try.func46 (by kernel_rfl) rfl #[.agg #[.int .i64 t348, .int .i64 t349, .string t350], .agg #[.int .i64 t351, .int .i64 t352, .string t353]] rfl (by (try simp only [List.map_toArray, List.map_cons, List.map_nil]); first | done | rfl | (simp only [List.length_drop, List.length_take]; rfl)) ?_; (with_reducible refine (value_Mod.calls t348 t349 t350 t351 t352 t353 t371 t372 t373 t374 _ A37.out).mono ?_); rintro e w77 ⟨rfl, hb⟩; refine ⟨_, rfl, ?_⟩; have n0_ := Aside0.mk (blk_below (g := gb354) (o := .cells #[.int .i64 t348, .int .i64 t349, .string t350] 33 (0, 0)) (by (with_reducible repeat (first | refine blk_drewN ?_ _ | refine blk_drew ?_ | refine blk_alloc ?_ _)); refine blk_far ?_ NB354_370.out _; (with_reducible repeat (first | refine blk_drewN ?_ _ | refine blk_drew ?_ | refine blk_alloc ?_ _)); refine blk_far ?_ NB354_370.out _; (with_reducible repeat (first | refine blk_drewN ?_ _ | refine blk_drew ?_ | refine blk_alloc ?_ _)); refine blk_far ?_ NB354_370.out _; (with_reducible repeat (first | refine blk_drewN ?_ _ | refine blk_drew ?_ | refine blk_alloc ?_ _)); exact BK354.out) hb); have n1_ := Aside0.mk (blk_below (g := gb355) (o := .cells #[.int .i64 t351, .int .i64 t352, .string t353] 33 (0, 0)) (by (with_reducible repeat (first | refine blk_drewN ?_ _ | refine blk_drew ?_ | refine blk_alloc ?_ _)); refine blk_far ?_ NB355_370.out _; (with_reducible repeat (first | refine blk_drewN ?_ _ | refine blk_drew ?_ | refine blk_alloc ?_ _)); refine blk_far ?_ NB355_370.out _; (with_reducible repeat (first | refine blk_drewN ?_ _ | refine blk_drew ?_ | refine blk_alloc ?_ _)); refine blk_far ?_ NB355_370.out _; (with_reducible repeat (first | refine blk_drewN ?_ _ | refine blk_drew ?_ | refine blk_alloc ?_ _)); exact BK355.out) hb); have n2_ := Aside0.mk (blk_below (g := gb360) (o := .cells #[.int .i64 t356, .int .i64 t357, .string t358] 33 (0, 0)) (by (with_reducible repeat (first | refine blk_drewN ?_ _ | refine blk_drew ?_ | refine blk_alloc ?_ _)); refine blk_far ?_ NB360_370.out _; (with_reducible repeat (first | refine blk_drewN ?_ _ | refine blk_drew ?_ | refine blk_alloc ?_ _)); refine blk_far ?_ NB360_370.out _; (with_reducible repeat (first | refine blk_drewN ?_ _ | refine blk_drew ?_ | refine blk_alloc ?_ _)); refine blk_far ?_ NB360_370.out _; (with_reducible repeat (first | refine blk_drewN ?_ _ | refine blk_drew ?_ | refine blk_alloc ?_ _)); exact BK360.out) hb); have n3_ := Aside0.mk (blk_below (g := gb370) (o := .cells #[.int .i64 t366, .int .i64 t367, .string t368] 33 (0, 0)) (by (with_reducible repeat (first | refine blk_drewN ?_ _ | refine blk_drew ?_ | refine blk_alloc ?_ _)); refine blk_put (cs := #[.int .i64 t366, .int .i64 t367, .string (⟨#[]⟩ : ByteArray)]) ?_ 2 _ rfl; (with_reducible repeat (first | refine blk_drewN ?_ _ | refine blk_drew ?_ | refine blk_alloc ?_ _)); refine blk_put (cs := #[.int .i64 t366, .int .i64 0, .string (⟨#[]⟩ : ByteArray)]) ?_ 1 _ rfl; (with_reducible repeat (first | refine blk_drewN ?_ _ | refine blk_drew ?_ | refine blk_alloc ?_ _)); refine blk_put (cs := #[.int .i64 0, .int .i64 0, .string (⟨#[]⟩ : ByteArray)]) ?_ 0 _ rfl; (with_reducible repeat (first | refine blk_drewN ?_ _ | refine blk_drew ?_ | refine blk_alloc ?_ _)); exact BK370.out) hb); have n4_ := Aside0.mk (below_step (by repeat (first | (with_reducible first | exact HB.out | apply below_alloc | apply pw_below_drewN | apply below_drew1 | refine below_set ?_ GE354.out | refine below_set ?_ GE355.out | refine below_set ?_ GE360.out | refine below_set ?_ GE370.out) | exact HB.out)) hb); clear BK354; clear BK355; clear BK360; clear BK370; clear HB; have BK354 := n0_; have BK355 := n1_; have BK360 := n2_; have BK370 := n3_; have HB := n4_; clear n0_ n1_ n2_ n3_ n4_; (try clear hb); (try clear hb2); (try clear hk); (try clear hi)) | ((with_reducible refine gate_dst (N := 13) rfl ?_); refine box_event ?hg (N := 13) ?hd (cs := #[.int .i64 0, .int .i64 0, .string (⟨#[]⟩ : ByteArray)]) (t := 33) ?hr ?_; (case hd => rfl); (case hg => rfl); (case hr => first | (go_simp; done) | (go_simp; rfl)); intro gb375 hg w78 hbox hb; have n0_ := Aside0.mk (blk_below (g := gb354) (o := .cells #[.int .i64 t348, .int .i64 t349, .string t350] 33 (0, 0)) (by (with_reducible repeat (first | refine blk_drewN ?_ _ | refine blk_drew ?_ | refine blk_alloc ?_ _)); exact BK354.out) hb); have n1_ := Aside0.mk (blk_below (g := gb355) (o := .cells #[.int .i64 t351, .int .i64 t352, .string t353] 33 (0, 0)) (by (with_reducible repeat (first | refine blk_drewN ?_ _ | refine blk_drew ?_ | refine blk_alloc ?_ _)); exact BK355.out) hb); have n2_ := Aside0.mk (blk_below (g := gb360) (o := .cells #[.int .i64 t356, .int .i64 t357, .string t358] 33 (0, 0)) (by (with_reducible repeat (first | refine blk_drewN ?_ _ | refine blk_drew ?_ | refine blk_alloc ?_ _)); exact BK360.out) hb); have n3_ := Aside0.mk (blk_below (g := gb370) (o := .cells #[.int .i64 t366, .int .i64 t367, .string t368] 33 (0, 0)) (by (with_reducible repeat (first | refine blk_drewN ?_ _ | refine blk_drew ?_ | refine blk_alloc ?_ _)); exact BK370.out) hb); have n4_ := Aside0.mk (below_step (by repeat (first | (with_reducible first | exact HB.out | apply below_alloc | apply pw_below_drewN | apply below_drew1 | refine below_set ?_ GE354.out | refine below_set ?_ GE355.out | refine below_set ?_ GE360.out | refine below_set ?_ GE370.out) | exact HB.out)) hb); have n5_ := Aside0.mk (hbox); have n6_ := Aside0.mk ((by rw [hg]; exact (below_size (by repeat (first | (with_reducible first | exact HB.out | apply below_alloc | apply pw_below_drewN | apply below_drew1 | refine below_set ?_ GE354.out | refine below_set ?_ GE355.out | refine below_set ?_ GE360.out | refine below_set ?_ GE370.out) | exact HB.out))) : w.heap.size ≤ gb375)); have n7_ := Aside0.mk ((by rw [hg]; exact (below_size (by repeat (first | (with_reducible first | exact HB.out | apply below_alloc | apply pw_below_drewN | apply below_drew1 | refine below_set ?_ GE354.out | refine below_set ?_ GE355.out | refine below_set ?_ GE360.out | refine below_set ?_ GE370.out) | exact HB.out))) : w.heap.size ≤ gb375)); have n8_ := Aside0.mk ((by rw [hg]; exact Nat.ne_of_lt (blk_lt (g := gb354) (o := .cells #[.int .i64 t348, .int .i64 t349, .string t350] 33 (0, 0)) (by (with_reducible repeat (first | refine blk_drewN ?_ _ | refine blk_drew ?_ | refine blk_alloc ?_ _)); exact BK354.out)) : gb354 ≠ gb375)); have n9_ := Aside0.mk ((by rw [hg]; exact Nat.ne_of_gt (blk_lt (g := gb354) (o := .cells #[.int .i64 t348, .int .i64 t349, .string t350] 33 (0, 0)) (by (with_reducible repeat (first | refine blk_drewN ?_ _ | refine blk_drew ?_ | refine blk_alloc ?_ _)); exact BK354.out)) : gb375 ≠ gb354)); have n10_ := Aside0.mk ((by rw [hg]; exact Nat.ne_of_lt (blk_lt (g := gb355) (o := .cells #[.int .i64 t351, .int .i64 t352, .string t353] 33 (0, 0)) (by (with_reducible repeat (first | refine blk_drewN ?_ _ | refine blk_drew ?_ | refine blk_alloc ?_ _)); exact BK355.out)) : gb355 ≠ gb375)); have n11_ := Aside0.mk ((by rw [hg]; exact Nat.ne_of_gt (blk_lt (g := gb355) (o := .cells #[.int .i64 t351, .int .i64 t352, .string t353] 33 (0, 0)) (by (with_reducible repeat (first | refine blk_drewN ?_ _ | refine blk_drew ?_ | refine blk_alloc ?_ _)); exact BK355.out)) : gb375 ≠ gb355)); have n12_ := Aside0.mk ((by rw [hg]; exact Nat.ne_of_lt (blk_lt (g := gb360) (o := .cells #[.int .i64 t356, .int .i64 t357, .string t358] 33 (0, 0)) (by (with_reducible repeat (first | refine blk_drewN ?_ _ | refine blk_drew ?_ | refine blk_alloc ?_ _)); exact BK360.out)) : gb360 ≠ gb375)); have n13_ := Aside0.mk ((by rw [hg]; exact Nat.ne_of_gt (blk_lt (g := gb360) (o := .cells #[.int .i64 t356, .int .i64 t357, .string t358] 33 (0, 0)) (by (with_reducible repeat (first | refine blk_drewN ?_ _ | refine blk_drew ?_ | refine blk_alloc ?_ _)); exact BK360.out)) : gb375 ≠ gb360)); have n14_ := Aside0.mk ((by rw [hg]; exact Nat.ne_of_lt (blk_lt (g := gb370) (o := .cells #[.int .i64 t366, .int .i64 t367, .string t368] 33 (0, 0)) (by (with_reducible repeat (first | refine blk_drewN ?_ _ | refine blk_drew ?_ | refine blk_alloc ?_ _)); exact BK370.out)) : gb370 ≠ gb375)); have n15_ := Aside0.mk ((by rw [hg]; exact Nat.ne_of_gt (blk_lt (g := gb370) (o := .cells #[.int .i64 t366, .int .i64 t367, .string t368] 33 (0, 0)) (by (with_reducible repeat (first | refine blk_drewN ?_ _ | refine blk_drew ?_ | refine blk_alloc ?_ _)); exact BK370.out)) : gb375 ≠ gb370)); clear BK354; clear BK355; clear BK360; clear BK370; clear HB; have BK354 := n0_; have BK355 := n1_; have BK360 := n2_; have BK370 := n3_; have HB := n4_; have BK375 := n5_; have GW375 := n6_; have GE375 := n7_; have NB354_375 := n8_; have NB375_354 := n9_; have NB355_375 := n10_; have NB375_355 := n11_; have NB360_375 := n12_; have NB375_360 := n13_; have NB370_375 := n14_; have NB375_370 := n15_; clear n0_ n1_ n2_ n3_ n4_ n5_ n6_ n7_ n8_ n9_ n10_ n11_ n12_ n13_ n14_ n15_; clear hb hbox hg; have hnb79 := NB375_354.out; have hnc79 := NB354_375.out; have hnb80 := NB375_355.out; have hnc80 := NB355_375.out; have hnb81 := NB375_360.out; have hnc81 := NB360_375.out; have hnb82 := NB375_370.out; have hnc82 := NB370_375.out; have hcz83_0 : w78.cell? ⟨gb375, 0, none⟩ = some (.int .i64 0) := (blk_cell BK375.out 0).trans rfl; have hcz83_1 : w78.cell? ⟨gb375, 1, none⟩ = some (.int .i64 0) := (blk_cell BK375.out 1).trans rfl; have hcz83_2 : w78.cell? ⟨gb375, 2, none⟩ = some (.string (⟨#[]⟩ : ByteArray)) := (blk_cell BK375.out 2).trans rfl; have hfz83_0 := blk_frozen BK375.out 0; have hfz83_1 := blk_frozen BK375.out 1; have hfz83_2 := blk_frozen BK375.out 2))
        (try simp only [Act.put, List.setIfInBounds_toArray, List.set_cons_zero, List.set_cons_succ])
        go_cut [89] (fun v89 wc => ∃ (kq : Nat) (x89_62 : Bool), v89 = .bool x89_62 ∧ Aside0 (cordonlaw01_ValueBack.j1 kq a1 t369 x89_62 t348 t349 t350 t351 t352 t353 t366 t367 t368 t371 t372 t373 = some true) ∧ Aside0 (kq ≤ kj5) ∧ Aside0 (wc.heap[gb354]? = some (.cells #[.int .i64 t348, .int .i64 t349, .string t350] 33 (0, 0))) ∧ Aside0 (wc.heap[gb355]? = some (.cells #[.int .i64 t351, .int .i64 t352, .string t353] 33 (0, 0))) ∧ Aside0 (wc.heap[gb360]? = some (.cells #[.int .i64 t356, .int .i64 t357, .string t358] 33 (0, 0))) ∧ Aside0 (wc.heap[gb370]? = some (.cells #[.int .i64 t366, .int .i64 t367, .string t368] 33 (0, 0))) ∧ Aside0 (wc.heap[gb375]? = some (.cells #[.int .i64 t371, .int .i64 t372, .string t373] 33 (0, 0))) ∧ Aside0 (Below w.heap.size w wc))
        case first =>
          have H := HC63.out
          clear HC63
          by_cases c84 : t374 = 0
          · rw [if_pos c84] at H
            have c84b0 : (t374 == 0) = true := beq_iff_eq.mpr c84
            have c84b1 : (t374 != 0) = false := bne_eq_false_iff_eq.mpr c84
            clear c84
            (first | rw [c84b0] | (simp only [i64_w, i32_w]; rw [c84b0]) | skip)
            by_cases c85 : t372 < 0
            · rw [if_pos c85] at H
              have c85b0 : decide (t372 < 0) = true := decide_eq_true c85
              clear c85
              by_cases c86 : a0 ≥ 0
              · rw [if_pos c86] at H
                have c86b0 : decide (0 ≤ a0) = true := decide_eq_true c86
                clear c86
                have H' := Aside0.mk H
                clear H
                have hnb87 := NB375_354.out
                have hnc87 := NB354_375.out
                have hnb88 := NB375_355.out
                have hnc88 := NB355_375.out
                have hnb89 := NB375_360.out
                have hnc89 := NB360_375.out
                have hnb90 := NB375_370.out
                have hnc90 := NB370_375.out
                have hcz91_0 : w78.cell? ⟨gb375, 0, none⟩ = some (.int .i64 0) := (blk_cell BK375.out 0).trans rfl
                have hcz91_1 : w78.cell? ⟨gb375, 1, none⟩ = some (.int .i64 0) := (blk_cell BK375.out 1).trans rfl
                have hcz91_2 : w78.cell? ⟨gb375, 2, none⟩ = some (.string (⟨#[]⟩ : ByteArray)) := (blk_cell BK375.out 2).trans rfl
                have hfz91_0 := blk_frozen BK375.out 0
                have hfz91_1 := blk_frozen BK375.out 1
                have hfz91_2 := blk_frozen BK375.out 2
                go_wp2
                go_meet
                case rel => exact ⟨_, (true), (by first | rfl | (simp; done) | (simp [*]; done)), H', ⟨by have := HJ5.out; first | omega | exact Nat.le_refl _⟩, ⟨by (with_reducible repeat (first | refine blk_drewN ?_ _ | refine blk_drew ?_ | refine blk_alloc ?_ _)); refine blk_far ?_ NB354_375.out _; (with_reducible repeat (first | refine blk_drewN ?_ _ | refine blk_drew ?_ | refine blk_alloc ?_ _)); refine blk_far ?_ NB354_375.out _; (with_reducible repeat (first | refine blk_drewN ?_ _ | refine blk_drew ?_ | refine blk_alloc ?_ _)); refine blk_far ?_ NB354_375.out _; (with_reducible repeat (first | refine blk_drewN ?_ _ | refine blk_drew ?_ | refine blk_alloc ?_ _)); exact BK354.out⟩, ⟨by (with_reducible repeat (first | refine blk_drewN ?_ _ | refine blk_drew ?_ | refine blk_alloc ?_ _)); refine blk_far ?_ NB355_375.out _; (with_reducible repeat (first | refine blk_drewN ?_ _ | refine blk_drew ?_ | refine blk_alloc ?_ _)); refine blk_far ?_ NB355_375.out _; (with_reducible repeat (first | refine blk_drewN ?_ _ | refine blk_drew ?_ | refine blk_alloc ?_ _)); refine blk_far ?_ NB355_375.out _; (with_reducible repeat (first | refine blk_drewN ?_ _ | refine blk_drew ?_ | refine blk_alloc ?_ _)); exact BK355.out⟩, ⟨by (with_reducible repeat (first | refine blk_drewN ?_ _ | refine blk_drew ?_ | refine blk_alloc ?_ _)); refine blk_far ?_ NB360_375.out _; (with_reducible repeat (first | refine blk_drewN ?_ _ | refine blk_drew ?_ | refine blk_alloc ?_ _)); refine blk_far ?_ NB360_375.out _; (with_reducible repeat (first | refine blk_drewN ?_ _ | refine blk_drew ?_ | refine blk_alloc ?_ _)); refine blk_far ?_ NB360_375.out _; (with_reducible repeat (first | refine blk_drewN ?_ _ | refine blk_drew ?_ | refine blk_alloc ?_ _)); exact BK360.out⟩, ⟨by (with_reducible repeat (first | refine blk_drewN ?_ _ | refine blk_drew ?_ | refine blk_alloc ?_ _)); refine blk_far ?_ NB370_375.out _; (with_reducible repeat (first | refine blk_drewN ?_ _ | refine blk_drew ?_ | refine blk_alloc ?_ _)); refine blk_far ?_ NB370_375.out _; (with_reducible repeat (first | refine blk_drewN ?_ _ | refine blk_drew ?_ | refine blk_alloc ?_ _)); refine blk_far ?_ NB370_375.out _; (with_reducible repeat (first | refine blk_drewN ?_ _ | refine blk_drew ?_ | refine blk_alloc ?_ _)); exact BK370.out⟩, ⟨by (with_reducible repeat (first | refine blk_drewN ?_ _ | refine blk_drew ?_ | refine blk_alloc ?_ _)); refine blk_put (cs := #[.int .i64 t371, .int .i64 t372, .string (⟨#[]⟩ : ByteArray)]) ?_ 2 _ rfl; (with_reducible repeat (first | refine blk_drewN ?_ _ | refine blk_drew ?_ | refine blk_alloc ?_ _)); refine blk_put (cs := #[.int .i64 t371, .int .i64 0, .string (⟨#[]⟩ : ByteArray)]) ?_ 1 _ rfl; (with_reducible repeat (first | refine blk_drewN ?_ _ | refine blk_drew ?_ | refine blk_alloc ?_ _)); refine blk_put (cs := #[.int .i64 0, .int .i64 0, .string (⟨#[]⟩ : ByteArray)]) ?_ 0 _ rfl; (with_reducible repeat (first | refine blk_drewN ?_ _ | refine blk_drew ?_ | refine blk_alloc ?_ _)); exact BK375.out⟩, ⟨by repeat (first | (with_reducible first | exact HB.out | apply below_alloc | apply pw_below_drewN | apply below_drew1 | refine below_set ?_ GE354.out | refine below_set ?_ GE355.out | refine below_set ?_ GE360.out | refine below_set ?_ GE370.out | refine below_set ?_ GE375.out) | exact HB.out)⟩⟩
              · rw [if_neg c86] at H
                have c86b0 : decide (0 ≤ a0) = false := decide_eq_false c86
                clear c86
                by_cases c92 : t372 > 0
                · rw [if_pos c92] at H
                  have c92b0 : decide (0 < t372) = true := decide_eq_true c92
                  clear c92
                  have H' := Aside0.mk H
                  clear H
                  have hnb93 := NB375_354.out
                  have hnc93 := NB354_375.out
                  have hnb94 := NB375_355.out
                  have hnc94 := NB355_375.out
                  have hnb95 := NB375_360.out
                  have hnc95 := NB360_375.out
                  have hnb96 := NB375_370.out
                  have hnc96 := NB370_375.out
                  have hcz97_0 : w78.cell? ⟨gb375, 0, none⟩ = some (.int .i64 0) := (blk_cell BK375.out 0).trans rfl
                  have hcz97_1 : w78.cell? ⟨gb375, 1, none⟩ = some (.int .i64 0) := (blk_cell BK375.out 1).trans rfl
                  have hcz97_2 : w78.cell? ⟨gb375, 2, none⟩ = some (.string (⟨#[]⟩ : ByteArray)) := (blk_cell BK375.out 2).trans rfl
                  have hfz97_0 := blk_frozen BK375.out 0
                  have hfz97_1 := blk_frozen BK375.out 1
                  have hfz97_2 := blk_frozen BK375.out 2
                  go_wp2
                  go_meet
                  case rel => exact ⟨_, (decide (a0 ≤ 0)), (by first | rfl | (simp; done) | (simp [*]; done)), H', ⟨by have := HJ5.out; first | omega | exact Nat.le_refl _⟩, ⟨by (with_reducible repeat (first | refine blk_drewN ?_ _ | refine blk_drew ?_ | refine blk_alloc ?_ _)); refine blk_far ?_ NB354_375.out _; (with_reducible repeat (first | refine blk_drewN ?_ _ | refine blk_drew ?_ | refine blk_alloc ?_ _)); refine blk_far ?_ NB354_375.out _; (with_reducible repeat (first | refine blk_drewN ?_ _ | refine blk_drew ?_ | refine blk_alloc ?_ _)); refine blk_far ?_ NB354_375.out _; (with_reducible repeat (first | refine blk_drewN ?_ _ | refine blk_drew ?_ | refine blk_alloc ?_ _)); exact BK354.out⟩, ⟨by (with_reducible repeat (first | refine blk_drewN ?_ _ | refine blk_drew ?_ | refine blk_alloc ?_ _)); refine blk_far ?_ NB355_375.out _; (with_reducible repeat (first | refine blk_drewN ?_ _ | refine blk_drew ?_ | refine blk_alloc ?_ _)); refine blk_far ?_ NB355_375.out _; (with_reducible repeat (first | refine blk_drewN ?_ _ | refine blk_drew ?_ | refine blk_alloc ?_ _)); refine blk_far ?_ NB355_375.out _; (with_reducible repeat (first | refine blk_drewN ?_ _ | refine blk_drew ?_ | refine blk_alloc ?_ _)); exact BK355.out⟩, ⟨by (with_reducible repeat (first | refine blk_drewN ?_ _ | refine blk_drew ?_ | refine blk_alloc ?_ _)); refine blk_far ?_ NB360_375.out _; (with_reducible repeat (first | refine blk_drewN ?_ _ | refine blk_drew ?_ | refine blk_alloc ?_ _)); refine blk_far ?_ NB360_375.out _; (with_reducible repeat (first | refine blk_drewN ?_ _ | refine blk_drew ?_ | refine blk_alloc ?_ _)); refine blk_far ?_ NB360_375.out _; (with_reducible repeat (first | refine blk_drewN ?_ _ | refine blk_drew ?_ | refine blk_alloc ?_ _)); exact BK360.out⟩, ⟨by (with_reducible repeat (first | refine blk_drewN ?_ _ | refine blk_drew ?_ | refine blk_alloc ?_ _)); refine blk_far ?_ NB370_375.out _; (with_reducible repeat (first | refine blk_drewN ?_ _ | refine blk_drew ?_ | refine blk_alloc ?_ _)); refine blk_far ?_ NB370_375.out _; (with_reducible repeat (first | refine blk_drewN ?_ _ | refine blk_drew ?_ | refine blk_alloc ?_ _)); refine blk_far ?_ NB370_375.out _; (with_reducible repeat (first | refine blk_drewN ?_ _ | refine blk_drew ?_ | refine blk_alloc ?_ _)); exact BK370.out⟩, ⟨by (with_reducible repeat (first | refine blk_drewN ?_ _ | refine blk_drew ?_ | refine blk_alloc ?_ _)); refine blk_put (cs := #[.int .i64 t371, .int .i64 t372, .string (⟨#[]⟩ : ByteArray)]) ?_ 2 _ rfl; (with_reducible repeat (first | refine blk_drewN ?_ _ | refine blk_drew ?_ | refine blk_alloc ?_ _)); refine blk_put (cs := #[.int .i64 t371, .int .i64 0, .string (⟨#[]⟩ : ByteArray)]) ?_ 1 _ rfl; (with_reducible repeat (first | refine blk_drewN ?_ _ | refine blk_drew ?_ | refine blk_alloc ?_ _)); refine blk_put (cs := #[.int .i64 0, .int .i64 0, .string (⟨#[]⟩ : ByteArray)]) ?_ 0 _ rfl; (with_reducible repeat (first | refine blk_drewN ?_ _ | refine blk_drew ?_ | refine blk_alloc ?_ _)); exact BK375.out⟩, ⟨by repeat (first | (with_reducible first | exact HB.out | apply below_alloc | apply pw_below_drewN | apply below_drew1 | refine below_set ?_ GE354.out | refine below_set ?_ GE355.out | refine below_set ?_ GE360.out | refine below_set ?_ GE370.out | refine below_set ?_ GE375.out) | exact HB.out)⟩⟩
                · rw [if_neg c92] at H
                  have c92b0 : decide (0 < t372) = false := decide_eq_false c92
                  clear c92
                  have H' := Aside0.mk H
                  clear H
                  have hnb98 := NB375_354.out
                  have hnc98 := NB354_375.out
                  have hnb99 := NB375_355.out
                  have hnc99 := NB355_375.out
                  have hnb100 := NB375_360.out
                  have hnc100 := NB360_375.out
                  have hnb101 := NB375_370.out
                  have hnc101 := NB370_375.out
                  have hcz102_0 : w78.cell? ⟨gb375, 0, none⟩ = some (.int .i64 0) := (blk_cell BK375.out 0).trans rfl
                  have hcz102_1 : w78.cell? ⟨gb375, 1, none⟩ = some (.int .i64 0) := (blk_cell BK375.out 1).trans rfl
                  have hcz102_2 : w78.cell? ⟨gb375, 2, none⟩ = some (.string (⟨#[]⟩ : ByteArray)) := (blk_cell BK375.out 2).trans rfl
                  have hfz102_0 := blk_frozen BK375.out 0
                  have hfz102_1 := blk_frozen BK375.out 1
                  have hfz102_2 := blk_frozen BK375.out 2
                  go_wp2
                  go_meet
                  case rel => exact ⟨_, (false), (by first | rfl | (simp; done) | (simp [*]; done)), H', ⟨by have := HJ5.out; first | omega | exact Nat.le_refl _⟩, ⟨by (with_reducible repeat (first | refine blk_drewN ?_ _ | refine blk_drew ?_ | refine blk_alloc ?_ _)); refine blk_far ?_ NB354_375.out _; (with_reducible repeat (first | refine blk_drewN ?_ _ | refine blk_drew ?_ | refine blk_alloc ?_ _)); refine blk_far ?_ NB354_375.out _; (with_reducible repeat (first | refine blk_drewN ?_ _ | refine blk_drew ?_ | refine blk_alloc ?_ _)); refine blk_far ?_ NB354_375.out _; (with_reducible repeat (first | refine blk_drewN ?_ _ | refine blk_drew ?_ | refine blk_alloc ?_ _)); exact BK354.out⟩, ⟨by (with_reducible repeat (first | refine blk_drewN ?_ _ | refine blk_drew ?_ | refine blk_alloc ?_ _)); refine blk_far ?_ NB355_375.out _; (with_reducible repeat (first | refine blk_drewN ?_ _ | refine blk_drew ?_ | refine blk_alloc ?_ _)); refine blk_far ?_ NB355_375.out _; (with_reducible repeat (first | refine blk_drewN ?_ _ | refine blk_drew ?_ | refine blk_alloc ?_ _)); refine blk_far ?_ NB355_375.out _; (with_reducible repeat (first | refine blk_drewN ?_ _ | refine blk_drew ?_ | refine blk_alloc ?_ _)); exact BK355.out⟩, ⟨by (with_reducible repeat (first | refine blk_drewN ?_ _ | refine blk_drew ?_ | refine blk_alloc ?_ _)); refine blk_far ?_ NB360_375.out _; (with_reducible repeat (first | refine blk_drewN ?_ _ | refine blk_drew ?_ | refine blk_alloc ?_ _)); refine blk_far ?_ NB360_375.out _; (with_reducible repeat (first | refine blk_drewN ?_ _ | refine blk_drew ?_ | refine blk_alloc ?_ _)); refine blk_far ?_ NB360_375.out _; (with_reducible repeat (first | refine blk_drewN ?_ _ | refine blk_drew ?_ | refine blk_alloc ?_ _)); exact BK360.out⟩, ⟨by (with_reducible repeat (first | refine blk_drewN ?_ _ | refine blk_drew ?_ | refine blk_alloc ?_ _)); refine blk_far ?_ NB370_375.out _; (with_reducible repeat (first | refine blk_drewN ?_ _ | refine blk_drew ?_ | refine blk_alloc ?_ _)); refine blk_far ?_ NB370_375.out _; (with_reducible repeat (first | refine blk_drewN ?_ _ | refine blk_drew ?_ | refine blk_alloc ?_ _)); refine blk_far ?_ NB370_375.out _; (with_reducible repeat (first | refine blk_drewN ?_ _ | refine blk_drew ?_ | refine blk_alloc ?_ _)); exact BK370.out⟩, ⟨by (with_reducible repeat (first | refine blk_drewN ?_ _ | refine blk_drew ?_ | refine blk_alloc ?_ _)); refine blk_put (cs := #[.int .i64 t371, .int .i64 t372, .string (⟨#[]⟩ : ByteArray)]) ?_ 2 _ rfl; (with_reducible repeat (first | refine blk_drewN ?_ _ | refine blk_drew ?_ | refine blk_alloc ?_ _)); refine blk_put (cs := #[.int .i64 t371, .int .i64 0, .string (⟨#[]⟩ : ByteArray)]) ?_ 1 _ rfl; (with_reducible repeat (first | refine blk_drewN ?_ _ | refine blk_drew ?_ | refine blk_alloc ?_ _)); refine blk_put (cs := #[.int .i64 0, .int .i64 0, .string (⟨#[]⟩ : ByteArray)]) ?_ 0 _ rfl; (with_reducible repeat (first | refine blk_drewN ?_ _ | refine blk_drew ?_ | refine blk_alloc ?_ _)); exact BK375.out⟩, ⟨by repeat (first | (with_reducible first | exact HB.out | apply below_alloc | apply pw_below_drewN | apply below_drew1 | refine below_set ?_ GE354.out | refine below_set ?_ GE355.out | refine below_set ?_ GE360.out | refine below_set ?_ GE370.out | refine below_set ?_ GE375.out) | exact HB.out)⟩⟩
            · rw [if_neg c85] at H
              have c85b0 : decide (t372 < 0) = false := decide_eq_false c85
              clear c85
              by_cases c103 : t372 > 0
              · rw [if_pos c103] at H
                have c103b0 : decide (0 < t372) = true := decide_eq_true c103
                clear c103
                have H' := Aside0.mk H
                clear H
                have hnb104 := NB375_354.out
                have hnc104 := NB354_375.out
                have hnb105 := NB375_355.out
                have hnc105 := NB355_375.out
                have hnb106 := NB375_360.out
                have hnc106 := NB360_375.out
                have hnb107 := NB375_370.out
                have hnc107 := NB370_375.out
                have hcz108_0 : w78.cell? ⟨gb375, 0, none⟩ = some (.int .i64 0) := (blk_cell BK375.out 0).trans rfl
                have hcz108_1 : w78.cell? ⟨gb375, 1, none⟩ = some (.int .i64 0) := (blk_cell BK375.out 1).trans rfl
                have hcz108_2 : w78.cell? ⟨gb375, 2, none⟩ = some (.string (⟨#[]⟩ : ByteArray)) := (blk_cell BK375.out 2).trans rfl
                have hfz108_0 := blk_frozen BK375.out 0
                have hfz108_1 := blk_frozen BK375.out 1
                have hfz108_2 := blk_frozen BK375.out 2
                go_wp2
                go_meet
                case rel => exact ⟨_, (decide (a0 ≤ 0)), (by first | rfl | (simp; done) | (simp [*]; done)), H', ⟨by have := HJ5.out; first | omega | exact Nat.le_refl _⟩, ⟨by (with_reducible repeat (first | refine blk_drewN ?_ _ | refine blk_drew ?_ | refine blk_alloc ?_ _)); refine blk_far ?_ NB354_375.out _; (with_reducible repeat (first | refine blk_drewN ?_ _ | refine blk_drew ?_ | refine blk_alloc ?_ _)); refine blk_far ?_ NB354_375.out _; (with_reducible repeat (first | refine blk_drewN ?_ _ | refine blk_drew ?_ | refine blk_alloc ?_ _)); refine blk_far ?_ NB354_375.out _; (with_reducible repeat (first | refine blk_drewN ?_ _ | refine blk_drew ?_ | refine blk_alloc ?_ _)); exact BK354.out⟩, ⟨by (with_reducible repeat (first | refine blk_drewN ?_ _ | refine blk_drew ?_ | refine blk_alloc ?_ _)); refine blk_far ?_ NB355_375.out _; (with_reducible repeat (first | refine blk_drewN ?_ _ | refine blk_drew ?_ | refine blk_alloc ?_ _)); refine blk_far ?_ NB355_375.out _; (with_reducible repeat (first | refine blk_drewN ?_ _ | refine blk_drew ?_ | refine blk_alloc ?_ _)); refine blk_far ?_ NB355_375.out _; (with_reducible repeat (first | refine blk_drewN ?_ _ | refine blk_drew ?_ | refine blk_alloc ?_ _)); exact BK355.out⟩, ⟨by (with_reducible repeat (first | refine blk_drewN ?_ _ | refine blk_drew ?_ | refine blk_alloc ?_ _)); refine blk_far ?_ NB360_375.out _; (with_reducible repeat (first | refine blk_drewN ?_ _ | refine blk_drew ?_ | refine blk_alloc ?_ _)); refine blk_far ?_ NB360_375.out _; (with_reducible repeat (first | refine blk_drewN ?_ _ | refine blk_drew ?_ | refine blk_alloc ?_ _)); refine blk_far ?_ NB360_375.out _; (with_reducible repeat (first | refine blk_drewN ?_ _ | refine blk_drew ?_ | refine blk_alloc ?_ _)); exact BK360.out⟩, ⟨by (with_reducible repeat (first | refine blk_drewN ?_ _ | refine blk_drew ?_ | refine blk_alloc ?_ _)); refine blk_far ?_ NB370_375.out _; (with_reducible repeat (first | refine blk_drewN ?_ _ | refine blk_drew ?_ | refine blk_alloc ?_ _)); refine blk_far ?_ NB370_375.out _; (with_reducible repeat (first | refine blk_drewN ?_ _ | refine blk_drew ?_ | refine blk_alloc ?_ _)); refine blk_far ?_ NB370_375.out _; (with_reducible repeat (first | refine blk_drewN ?_ _ | refine blk_drew ?_ | refine blk_alloc ?_ _)); exact BK370.out⟩, ⟨by (with_reducible repeat (first | refine blk_drewN ?_ _ | refine blk_drew ?_ | refine blk_alloc ?_ _)); refine blk_put (cs := #[.int .i64 t371, .int .i64 t372, .string (⟨#[]⟩ : ByteArray)]) ?_ 2 _ rfl; (with_reducible repeat (first | refine blk_drewN ?_ _ | refine blk_drew ?_ | refine blk_alloc ?_ _)); refine blk_put (cs := #[.int .i64 t371, .int .i64 0, .string (⟨#[]⟩ : ByteArray)]) ?_ 1 _ rfl; (with_reducible repeat (first | refine blk_drewN ?_ _ | refine blk_drew ?_ | refine blk_alloc ?_ _)); refine blk_put (cs := #[.int .i64 0, .int .i64 0, .string (⟨#[]⟩ : ByteArray)]) ?_ 0 _ rfl; (with_reducible repeat (first | refine blk_drewN ?_ _ | refine blk_drew ?_ | refine blk_alloc ?_ _)); exact BK375.out⟩, ⟨by repeat (first | (with_reducible first | exact HB.out | apply below_alloc | apply pw_below_drewN | apply below_drew1 | refine below_set ?_ GE354.out | refine below_set ?_ GE355.out | refine below_set ?_ GE360.out | refine below_set ?_ GE370.out | refine below_set ?_ GE375.out) | exact HB.out)⟩⟩
              · rw [if_neg c103] at H
                have c103b0 : decide (0 < t372) = false := decide_eq_false c103
                clear c103
                have H' := Aside0.mk H
                clear H
                have hnb109 := NB375_354.out
                have hnc109 := NB354_375.out
                have hnb110 := NB375_355.out
                have hnc110 := NB355_375.out
                have hnb111 := NB375_360.out
                have hnc111 := NB360_375.out
                have hnb112 := NB375_370.out
                have hnc112 := NB370_375.out
                have hcz113_0 : w78.cell? ⟨gb375, 0, none⟩ = some (.int .i64 0) := (blk_cell BK375.out 0).trans rfl
                have hcz113_1 : w78.cell? ⟨gb375, 1, none⟩ = some (.int .i64 0) := (blk_cell BK375.out 1).trans rfl
                have hcz113_2 : w78.cell? ⟨gb375, 2, none⟩ = some (.string (⟨#[]⟩ : ByteArray)) := (blk_cell BK375.out 2).trans rfl
                have hfz113_0 := blk_frozen BK375.out 0
                have hfz113_1 := blk_frozen BK375.out 1
                have hfz113_2 := blk_frozen BK375.out 2
                go_wp2
                go_meet
                case rel => exact ⟨_, (false), (by first | rfl | (simp; done) | (simp [*]; done)), H', ⟨by have := HJ5.out; first | omega | exact Nat.le_refl _⟩, ⟨by (with_reducible repeat (first | refine blk_drewN ?_ _ | refine blk_drew ?_ | refine blk_alloc ?_ _)); refine blk_far ?_ NB354_375.out _; (with_reducible repeat (first | refine blk_drewN ?_ _ | refine blk_drew ?_ | refine blk_alloc ?_ _)); refine blk_far ?_ NB354_375.out _; (with_reducible repeat (first | refine blk_drewN ?_ _ | refine blk_drew ?_ | refine blk_alloc ?_ _)); refine blk_far ?_ NB354_375.out _; (with_reducible repeat (first | refine blk_drewN ?_ _ | refine blk_drew ?_ | refine blk_alloc ?_ _)); exact BK354.out⟩, ⟨by (with_reducible repeat (first | refine blk_drewN ?_ _ | refine blk_drew ?_ | refine blk_alloc ?_ _)); refine blk_far ?_ NB355_375.out _; (with_reducible repeat (first | refine blk_drewN ?_ _ | refine blk_drew ?_ | refine blk_alloc ?_ _)); refine blk_far ?_ NB355_375.out _; (with_reducible repeat (first | refine blk_drewN ?_ _ | refine blk_drew ?_ | refine blk_alloc ?_ _)); refine blk_far ?_ NB355_375.out _; (with_reducible repeat (first | refine blk_drewN ?_ _ | refine blk_drew ?_ | refine blk_alloc ?_ _)); exact BK355.out⟩, ⟨by (with_reducible repeat (first | refine blk_drewN ?_ _ | refine blk_drew ?_ | refine blk_alloc ?_ _)); refine blk_far ?_ NB360_375.out _; (with_reducible repeat (first | refine blk_drewN ?_ _ | refine blk_drew ?_ | refine blk_alloc ?_ _)); refine blk_far ?_ NB360_375.out _; (with_reducible repeat (first | refine blk_drewN ?_ _ | refine blk_drew ?_ | refine blk_alloc ?_ _)); refine blk_far ?_ NB360_375.out _; (with_reducible repeat (first | refine blk_drewN ?_ _ | refine blk_drew ?_ | refine blk_alloc ?_ _)); exact BK360.out⟩, ⟨by (with_reducible repeat (first | refine blk_drewN ?_ _ | refine blk_drew ?_ | refine blk_alloc ?_ _)); refine blk_far ?_ NB370_375.out _; (with_reducible repeat (first | refine blk_drewN ?_ _ | refine blk_drew ?_ | refine blk_alloc ?_ _)); refine blk_far ?_ NB370_375.out _; (with_reducible repeat (first | refine blk_drewN ?_ _ | refine blk_drew ?_ | refine blk_alloc ?_ _)); refine blk_far ?_ NB370_375.out _; (with_reducible repeat (first | refine blk_drewN ?_ _ | refine blk_drew ?_ | refine blk_alloc ?_ _)); exact BK370.out⟩, ⟨by (with_reducible repeat (first | refine blk_drewN ?_ _ | refine blk_drew ?_ | refine blk_alloc ?_ _)); refine blk_put (cs := #[.int .i64 t371, .int .i64 t372, .string (⟨#[]⟩ : ByteArray)]) ?_ 2 _ rfl; (with_reducible repeat (first | refine blk_drewN ?_ _ | refine blk_drew ?_ | refine blk_alloc ?_ _)); refine blk_put (cs := #[.int .i64 t371, .int .i64 0, .string (⟨#[]⟩ : ByteArray)]) ?_ 1 _ rfl; (with_reducible repeat (first | refine blk_drewN ?_ _ | refine blk_drew ?_ | refine blk_alloc ?_ _)); refine blk_put (cs := #[.int .i64 0, .int .i64 0, .string (⟨#[]⟩ : ByteArray)]) ?_ 0 _ rfl; (with_reducible repeat (first | refine blk_drewN ?_ _ | refine blk_drew ?_ | refine blk_alloc ?_ _)); exact BK375.out⟩, ⟨by repeat (first | (with_reducible first | exact HB.out | apply below_alloc | apply pw_below_drewN | apply below_drew1 | refine below_set ?_ GE354.out | refine below_set ?_ GE355.out | refine below_set ?_ GE360.out | refine below_set ?_ GE370.out | refine below_set ?_ GE375.out) | exact HB.out)⟩⟩
          · rw [if_neg c84] at H
            have c84b0 : (t374 == 0) = false := beq_eq_false_iff_ne.mpr c84
            have c84b1 : (t374 != 0) = true := bne_iff_ne.mpr c84
            (first | rw [c84b0] | (simp only [i64_w, i32_w]; rw [c84b0]) | skip)
            have H' := Aside0.mk H
            clear H
            go_wp2
            go_meet
            case rel => exact ⟨_, (true), (by first | rfl | (simp; done) | (simp [*]; done)), H', ⟨by have := HJ5.out; first | omega | exact Nat.le_refl _⟩, ⟨by (with_reducible repeat (first | refine blk_drewN ?_ _ | refine blk_drew ?_ | refine blk_alloc ?_ _)); refine blk_far ?_ NB354_375.out _; (with_reducible repeat (first | refine blk_drewN ?_ _ | refine blk_drew ?_ | refine blk_alloc ?_ _)); refine blk_far ?_ NB354_375.out _; (with_reducible repeat (first | refine blk_drewN ?_ _ | refine blk_drew ?_ | refine blk_alloc ?_ _)); refine blk_far ?_ NB354_375.out _; (with_reducible repeat (first | refine blk_drewN ?_ _ | refine blk_drew ?_ | refine blk_alloc ?_ _)); exact BK354.out⟩, ⟨by (with_reducible repeat (first | refine blk_drewN ?_ _ | refine blk_drew ?_ | refine blk_alloc ?_ _)); refine blk_far ?_ NB355_375.out _; (with_reducible repeat (first | refine blk_drewN ?_ _ | refine blk_drew ?_ | refine blk_alloc ?_ _)); refine blk_far ?_ NB355_375.out _; (with_reducible repeat (first | refine blk_drewN ?_ _ | refine blk_drew ?_ | refine blk_alloc ?_ _)); refine blk_far ?_ NB355_375.out _; (with_reducible repeat (first | refine blk_drewN ?_ _ | refine blk_drew ?_ | refine blk_alloc ?_ _)); exact BK355.out⟩, ⟨by (with_reducible repeat (first | refine blk_drewN ?_ _ | refine blk_drew ?_ | refine blk_alloc ?_ _)); refine blk_far ?_ NB360_375.out _; (with_reducible repeat (first | refine blk_drewN ?_ _ | refine blk_drew ?_ | refine blk_alloc ?_ _)); refine blk_far ?_ NB360_375.out _; (with_reducible repeat (first | refine blk_drewN ?_ _ | refine blk_drew ?_ | refine blk_alloc ?_ _)); refine blk_far ?_ NB360_375.out _; (with_reducible repeat (first | refine blk_drewN ?_ _ | refine blk_drew ?_ | refine blk_alloc ?_ _)); exact BK360.out⟩, ⟨by (with_reducible repeat (first | refine blk_drewN ?_ _ | refine blk_drew ?_ | refine blk_alloc ?_ _)); refine blk_far ?_ NB370_375.out _; (with_reducible repeat (first | refine blk_drewN ?_ _ | refine blk_drew ?_ | refine blk_alloc ?_ _)); refine blk_far ?_ NB370_375.out _; (with_reducible repeat (first | refine blk_drewN ?_ _ | refine blk_drew ?_ | refine blk_alloc ?_ _)); refine blk_far ?_ NB370_375.out _; (with_reducible repeat (first | refine blk_drewN ?_ _ | refine blk_drew ?_ | refine blk_alloc ?_ _)); exact BK370.out⟩, ⟨by (with_reducible repeat (first | refine blk_drewN ?_ _ | refine blk_drew ?_ | refine blk_alloc ?_ _)); refine blk_put (cs := #[.int .i64 t371, .int .i64 t372, .string (⟨#[]⟩ : ByteArray)]) ?_ 2 _ rfl; (with_reducible repeat (first | refine blk_drewN ?_ _ | refine blk_drew ?_ | refine blk_alloc ?_ _)); refine blk_put (cs := #[.int .i64 t371, .int .i64 0, .string (⟨#[]⟩ : ByteArray)]) ?_ 1 _ rfl; (with_reducible repeat (first | refine blk_drewN ?_ _ | refine blk_drew ?_ | refine blk_alloc ?_ _)); refine blk_put (cs := #[.int .i64 0, .int .i64 0, .string (⟨#[]⟩ : ByteArray)]) ?_ 0 _ rfl; (with_reducible repeat (first | refine blk_drewN ?_ _ | refine blk_drew ?_ | refine blk_alloc ?_ _)); exact BK375.out⟩, ⟨by repeat (first | (with_reducible first | exact HB.out | apply below_alloc | apply pw_below_drewN | apply below_drew1 | refine below_set ?_ GE354.out | refine below_set ?_ GE355.out | refine below_set ?_ GE360.out | refine below_set ?_ GE370.out | refine below_set ?_ GE375.out) | exact HB.out)⟩⟩
        case rest =>
          clear HC63
          try clear c1
          try clear c2
          try clear p2
          try clear c3
          try clear c4
          try clear c5
          try clear c6
          try clear c7
          try clear c8
          try clear c9
          try clear c10
          try clear c11
          try clear c16
          try clear c17
          try clear c19
          try clear c19b0
          try clear c19b1
          try clear c21
          try clear c21b0
          try clear c21b1
          try clear c22
          try clear c22b0
          try clear c23
          try clear c24
          try clear c26
          try clear c30
          try clear c31
          try clear c32
          try clear c35
          try clear c35b0
          try clear c35b1
          try clear c38
          try clear c38b0
          try clear c38b1
          try clear c39
          try clear c39b0
          try clear c39b1
          try clear c40
          try clear c40b0
          try clear c40b1
          try clear c42
          try clear c43
          try clear c44
          try clear c45
          try clear c46
          try clear c49
          try clear c50
          try clear c51
          try clear c57
          try clear c58
          try clear c59
          try clear c60
          try clear c64
          try clear c65
          try clear c67
          try clear c71
          try clear c72
          try clear c73
          try clear c79
          try clear c80
          try clear c81
          try clear c82
          try clear c84
          try clear c84b0
          try clear c84b1
          try clear c85
          try clear c85b0
          try clear c86
          try clear c86b0
          try clear c87
          try clear c88
          try clear c89
          try clear c90
          try clear c92
          try clear c92b0
          try clear c93
          try clear c94
          try clear c95
          try clear c96
          try clear c98
          try clear c99
          try clear c100
          try clear c101
          try clear c103
          try clear c103b0
          try clear c104
          try clear c105
          try clear c106
          try clear c107
          try clear c109
          try clear c110
          try clear c111
          try clear c112
          try clear hcz102_0
          try clear hcz102_1
          try clear hcz102_2
          try clear hcz108_0
          try clear hcz108_1
          try clear hcz108_2
          try clear hcz113_0
          try clear hcz113_1
          try clear hcz113_2
          try clear hcz12_0
          try clear hcz12_1
          try clear hcz12_2
          try clear hcz13_0
          try clear hcz13_1
          try clear hcz13_2
          try clear hcz18_0
          try clear hcz18_1
          try clear hcz18_2
          try clear hcz25_0
          try clear hcz25_1
          try clear hcz25_2
          try clear hcz27_0
          try clear hcz27_1
          try clear hcz27_2
          try clear hcz33_0
          try clear hcz33_1
          try clear hcz33_2
          try clear hcz34_0
          try clear hcz34_1
          try clear hcz34_2
          try clear hcz44_0
          try clear hcz44_1
          try clear hcz44_2
          try clear hcz46_0
          try clear hcz46_1
          try clear hcz46_2
          try clear hcz52_0
          try clear hcz52_1
          try clear hcz52_2
          try clear hcz53_0
          try clear hcz53_1
          try clear hcz53_2
          try clear hcz54_0
          try clear hcz54_1
          try clear hcz54_2
          try clear hcz61_0
          try clear hcz61_1
          try clear hcz61_2
          try clear hcz66_0
          try clear hcz66_1
          try clear hcz66_2
          try clear hcz68_0
          try clear hcz68_1
          try clear hcz68_2
          try clear hcz74_0
          try clear hcz74_1
          try clear hcz74_2
          try clear hcz75_0
          try clear hcz75_1
          try clear hcz75_2
          try clear hcz76_0
          try clear hcz76_1
          try clear hcz76_2
          try clear hcz83_0
          try clear hcz83_1
          try clear hcz83_2
          try clear hcz91_0
          try clear hcz91_1
          try clear hcz91_2
          try clear hcz97_0
          try clear hcz97_1
          try clear hcz97_2
          try clear hfz102_0
          try clear hfz102_1
          try clear hfz102_2
          try clear hfz108_0
          try clear hfz108_1
          try clear hfz108_2
          try clear hfz113_0
          try clear hfz113_1
          try clear hfz113_2
          try clear hfz12_0
          try clear hfz12_1
          try clear hfz12_2
          try clear hfz13_0
          try clear hfz13_1
          try clear hfz13_2
          try clear hfz18_0
          try clear hfz18_1
          try clear hfz18_2
          try clear hfz25_0
          try clear hfz25_1
          try clear hfz25_2
          try clear hfz27_0
          try clear hfz27_1
          try clear hfz27_2
          try clear hfz33_0
          try clear hfz33_1
          try clear hfz33_2
          try clear hfz34_0
          try clear hfz34_1
          try clear hfz34_2
          try clear hfz44_0
          try clear hfz44_1
          try clear hfz44_2
          try clear hfz46_0
          try clear hfz46_1
          try clear hfz46_2
          try clear hfz52_0
          try clear hfz52_1
          try clear hfz52_2
          try clear hfz53_0
          try clear hfz53_1
          try clear hfz53_2
          try clear hfz54_0
          try clear hfz54_1
          try clear hfz54_2
          try clear hfz61_0
          try clear hfz61_1
          try clear hfz61_2
          try clear hfz66_0
          try clear hfz66_1
          try clear hfz66_2
          try clear hfz68_0
          try clear hfz68_1
          try clear hfz68_2
          try clear hfz74_0
          try clear hfz74_1
          try clear hfz74_2
          try clear hfz75_0
          try clear hfz75_1
          try clear hfz75_2
          try clear hfz76_0
          try clear hfz76_1
          try clear hfz76_2
          try clear hfz83_0
          try clear hfz83_1
          try clear hfz83_2
          try clear hfz91_0
          try clear hfz91_1
          try clear hfz91_2
          try clear hfz97_0
          try clear hfz97_1
          try clear hfz97_2
          try clear p2
          obtain ⟨kq, x89_62, rfl, HA, HJ62, BK354, BK355, BK360, BK370, BK375, HB⟩ := hcut
          cases kq with
          | zero => exact absurd HA.out (by simp [cordonlaw01_ValueBack.j1])
          | succ kj62 =>
            have H := HA.out
            clear HA
            simp only [cordonlaw01_ValueBack.j1] at H
            by_cases c114 : x89_62 = true
            · subst c114
              have H1 : (some false) = some true := by rw [if_pos rfl] at H; exact H
              clear H
              have H := H1
              clear H1
              exact absurd H (by simp)
            · replace c114 := Bool.eq_false_iff.mpr c114
              subst c114
              have H1 : (if t369 = 0 then ((value_Mul.f t366 t367 t368 t351 t352 t353).bind fun bt377 => ((value_Add.f bt377.1 bt377.2.1 bt377.2.2.1 t371 t372 t373).bind fun bt382 => (if t372 > (wrap64 (-a1)) then (if t372 < a1 then (if bt377.2.2.2 = 0 then (if bt382.2.2.2 = 0 then (if (bt382.1 == t348 && (bt382.2.1 == t349 && (bt382.2.2.1.toList == t350.toList))) = true then ((cordonlaw01_alive.f).bind fun t387 => (some t387)) else (some false)) else (some false)) else (some false)) else (if t372 < (wrap64 (-a1)) then (if t372 > a1 then (if bt377.2.2.2 = 0 then (if bt382.2.2.2 = 0 then (if (bt382.1 == t348 && (bt382.2.1 == t349 && (bt382.2.2.1.toList == t350.toList))) = true then ((cordonlaw01_alive.f).bind fun t388 => (some t388)) else (some false)) else (some false)) else (some false)) else (if bt377.2.2.2 = 0 then (if bt382.2.2.2 = 0 then (if (bt382.1 == t348 && (bt382.2.1 == t349 && (bt382.2.2.1.toList == t350.toList))) = true then (if a1 = (-9223372036854775808) then ((cordonlaw01_alive.f).bind fun t389 => (some t389)) else (some false)) else (some false)) else (some false)) else (some false))) else (if bt377.2.2.2 = 0 then (if bt382.2.2.2 = 0 then (if (bt382.1 == t348 && (bt382.2.1 == t349 && (bt382.2.2.1.toList == t350.toList))) = true then (if a1 = (-9223372036854775808) then ((cordonlaw01_alive.f).bind fun t390 => (some t390)) else (some false)) else (some false)) else (some false)) else (some false)))) else (if t372 < (wrap64 (-a1)) then (if t372 > a1 then (if bt377.2.2.2 = 0 then (if bt382.2.2.2 = 0 then (if (bt382.1 == t348 && (bt382.2.1 == t349 && (bt382.2.2.1.toList == t350.toList))) = true then ((cordonlaw01_alive.f).bind fun t391 => (some t391)) else (some false)) else (some false)) else (some false)) else (if bt377.2.2.2 = 0 then (if bt382.2.2.2 = 0 then (if (bt382.1 == t348 && (bt382.2.1 == t349 && (bt382.2.2.1.toList == t350.toList))) = true then (if a1 = (-9223372036854775808) then ((cordonlaw01_alive.f).bind fun t392 => (some t392)) else (some false)) else (some false)) else (some false)) else (some false))) else (if bt377.2.2.2 = 0 then (if bt382.2.2.2 = 0 then (if (bt382.1 == t348 && (bt382.2.1 == t349 && (bt382.2.2.1.toList == t350.toList))) = true then (if a1 = (-9223372036854775808) then ((cordonlaw01_alive.f).bind fun t393 => (some t393)) else (some false)) else (some false)) else (some false)) else (some false)))))) else (if t369 = 4 then (if a1 = (-1) then (if t372 = 0 then ((cordonlaw01_alive.f).bind fun t394 => (some t394)) else (some false)) else (some false)) else (some false))) = some true := by rw [if_neg (show ¬ (false = true) by decide)] at H; exact H
              clear H
              have H := H1
              clear H1
              by_cases c115 : t369 = 0
              · rw [if_pos c115] at H
                have c115b0 : (t369 == 0) = true := beq_iff_eq.mpr c115
                have c115b1 : (t369 != 0) = false := bne_eq_false_iff_eq.mpr c115
                clear c115
                replace H := Option.bind_eq_some_iff.mp H
                obtain ⟨⟨t377, t378, t379, t380⟩, A1160, H⟩ := H
                replace H : ((value_Add.f t377 t378 t379 t371 t372 t373).bind fun bt382 => (if t372 > (wrap64 (-a1)) then (if t372 < a1 then (if t380 = 0 then (if bt382.2.2.2 = 0 then (if (bt382.1 == t348 && (bt382.2.1 == t349 && (bt382.2.2.1.toList == t350.toList))) = true then ((cordonlaw01_alive.f).bind fun t387 => (some t387)) else (some false)) else (some false)) else (some false)) else (if t372 < (wrap64 (-a1)) then (if t372 > a1 then (if t380 = 0 then (if bt382.2.2.2 = 0 then (if (bt382.1 == t348 && (bt382.2.1 == t349 && (bt382.2.2.1.toList == t350.toList))) = true then ((cordonlaw01_alive.f).bind fun t388 => (some t388)) else (some false)) else (some false)) else (some false)) else (if t380 = 0 then (if bt382.2.2.2 = 0 then (if (bt382.1 == t348 && (bt382.2.1 == t349 && (bt382.2.2.1.toList == t350.toList))) = true then (if a1 = (-9223372036854775808) then ((cordonlaw01_alive.f).bind fun t389 => (some t389)) else (some false)) else (some false)) else (some false)) else (some false))) else (if t380 = 0 then (if bt382.2.2.2 = 0 then (if (bt382.1 == t348 && (bt382.2.1 == t349 && (bt382.2.2.1.toList == t350.toList))) = true then (if a1 = (-9223372036854775808) then ((cordonlaw01_alive.f).bind fun t390 => (some t390)) else (some false)) else (some false)) else (some false)) else (some false)))) else (if t372 < (wrap64 (-a1)) then (if t372 > a1 then (if t380 = 0 then (if bt382.2.2.2 = 0 then (if (bt382.1 == t348 && (bt382.2.1 == t349 && (bt382.2.2.1.toList == t350.toList))) = true then ((cordonlaw01_alive.f).bind fun t391 => (some t391)) else (some false)) else (some false)) else (some false)) else (if t380 = 0 then (if bt382.2.2.2 = 0 then (if (bt382.1 == t348 && (bt382.2.1 == t349 && (bt382.2.2.1.toList == t350.toList))) = true then (if a1 = (-9223372036854775808) then ((cordonlaw01_alive.f).bind fun t392 => (some t392)) else (some false)) else (some false)) else (some false)) else (some false))) else (if t380 = 0 then (if bt382.2.2.2 = 0 then (if (bt382.1 == t348 && (bt382.2.1 == t349 && (bt382.2.2.1.toList == t350.toList))) = true then (if a1 = (-9223372036854775808) then ((cordonlaw01_alive.f).bind fun t393 => (some t393)) else (some false)) else (some false)) else (some false)) else (some false))))) = some true := H
                have A116 := Aside0.mk A1160
                clear A1160
                replace H := Option.bind_eq_some_iff.mp H
                obtain ⟨⟨t382, t383, t384, t385⟩, A1170, H⟩ := H
                replace H : (if t372 > (wrap64 (-a1)) then (if t372 < a1 then (if t380 = 0 then (if t385 = 0 then (if (t382 == t348 && (t383 == t349 && (t384.toList == t350.toList))) = true then ((cordonlaw01_alive.f).bind fun t387 => (some t387)) else (some false)) else (some false)) else (some false)) else (if t372 < (wrap64 (-a1)) then (if t372 > a1 then (if t380 = 0 then (if t385 = 0 then (if (t382 == t348 && (t383 == t349 && (t384.toList == t350.toList))) = true then ((cordonlaw01_alive.f).bind fun t388 => (some t388)) else (some false)) else (some false)) else (some false)) else (if t380 = 0 then (if t385 = 0 then (if (t382 == t348 && (t383 == t349 && (t384.toList == t350.toList))) = true then (if a1 = (-9223372036854775808) then ((cordonlaw01_alive.f).bind fun t389 => (some t389)) else (some false)) else (some false)) else (some false)) else (some false))) else (if t380 = 0 then (if t385 = 0 then (if (t382 == t348 && (t383 == t349 && (t384.toList == t350.toList))) = true then (if a1 = (-9223372036854775808) then ((cordonlaw01_alive.f).bind fun t390 => (some t390)) else (some false)) else (some false)) else (some false)) else (some false)))) else (if t372 < (wrap64 (-a1)) then (if t372 > a1 then (if t380 = 0 then (if t385 = 0 then (if (t382 == t348 && (t383 == t349 && (t384.toList == t350.toList))) = true then ((cordonlaw01_alive.f).bind fun t391 => (some t391)) else (some false)) else (some false)) else (some false)) else (if t380 = 0 then (if t385 = 0 then (if (t382 == t348 && (t383 == t349 && (t384.toList == t350.toList))) = true then (if a1 = (-9223372036854775808) then ((cordonlaw01_alive.f).bind fun t392 => (some t392)) else (some false)) else (some false)) else (some false)) else (some false))) else (if t380 = 0 then (if t385 = 0 then (if (t382 == t348 && (t383 == t349 && (t384.toList == t350.toList))) = true then (if a1 = (-9223372036854775808) then ((cordonlaw01_alive.f).bind fun t393 => (some t393)) else (some false)) else (some false)) else (some false)) else (some false)))) = some true := H
                have A117 := Aside0.mk A1170
                clear A1170
                by_cases c118 : t372 > (wrap64 (-a1))
                · rw [if_pos c118] at H
                  have c118b0 : decide ((wrap64 (-a1)) < t372) = true := decide_eq_true c118
                  clear c118
                  by_cases c119 : t372 < a1
                  · exact absurd c119 (by have z1_ := zm_.out; have z2_ : wrap64 (-a1) = (-9223372036854775808) := (by rw [HLE.out]; unfold wrap64; omega); have z3_ := HLE.out; omega)
                  · rw [if_neg c119] at H
                    have c119b0 : decide (t372 < a1) = false := decide_eq_false c119
                    clear c119
                    by_cases c157 : t372 < (wrap64 (-a1))
                    · exact absurd c157 (by have z_ := of_decide_eq_true c118b0; omega)
                    · rw [if_neg c157] at H
                      have c157b0 : decide (t372 < (wrap64 (-a1))) = false := decide_eq_false c157
                      clear c157
                      by_cases c234 : t380 = 0
                      · rw [if_pos c234] at H
                        have c234b0 : (t380 == 0) = true := beq_iff_eq.mpr c234
                        have c234b1 : (t380 != 0) = false := bne_eq_false_iff_eq.mpr c234
                        clear c234
                        by_cases c235 : t385 = 0
                        · rw [if_pos c235] at H
                          have c235b0 : (t385 == 0) = true := beq_iff_eq.mpr c235
                          have c235b1 : (t385 != 0) = false := bne_eq_false_iff_eq.mpr c235
                          clear c235
                          by_cases c236 : (t382 == t348 && (t383 == t349 && (t384.toList == t350.toList))) = true
                          · rw [if_pos c236] at H
                            have c236b0 : (t382 == t348 && (t383 == t349 && (t384.toList == t350.toList))) = true := c236
                            (try (have c236b1 : decide (t382 = t348 && (t383 == t349 && (t384.toList == t350.toList))) = true := by simpa using c236))
                            (try (have c236b2 : (t382 == t348 && (t383 == t349 && (t384.toList == t350.toList))) = true := by simpa using c236))
                            clear c236
                            by_cases c237 : a1 = (-9223372036854775808)
                            · rw [if_pos c237] at H
                              have c237b0 : (a1 == (-9223372036854775808)) = true := beq_iff_eq.mpr c237
                              have c237b1 : (a1 != (-9223372036854775808)) = false := bne_eq_false_iff_eq.mpr c237
                              clear c237
                              replace H := Option.bind_eq_some_iff.mp H
                              obtain ⟨t390, A2380, H⟩ := H
                              replace H : (some t390) = some true := H
                              have A238 := Aside0.mk A2380
                              clear A2380
                              obtain rfl := Option.some.inj H
                              have hnb239 := NB370_354.out
                              have hnc239 := NB354_370.out
                              have hnb240 := NB370_355.out
                              have hnc240 := NB355_370.out
                              have hnb241 := NB370_360.out
                              have hnc241 := NB360_370.out
                              have hnb242 := NB370_375.out
                              have hnc242 := NB375_370.out
                              have hcz243_0 : wc.cell? ⟨gb370, 0, none⟩ = some (.int .i64 t366) := (blk_cell BK370.out 0).trans rfl
                              have hcz243_1 : wc.cell? ⟨gb370, 1, none⟩ = some (.int .i64 t367) := (blk_cell BK370.out 1).trans rfl
                              have hcz243_2 : wc.cell? ⟨gb370, 2, none⟩ = some (.string t368) := (blk_cell BK370.out 2).trans rfl
                              have hfz243_0 := blk_frozen BK370.out 0
                              have hfz243_1 := blk_frozen BK370.out 1
                              have hfz243_2 := blk_frozen BK370.out 2
                              have hnb244 := NB355_354.out
                              have hnc244 := NB354_355.out
                              have hnb245 := NB355_360.out
                              have hnc245 := NB360_355.out
                              have hnb246 := NB355_375.out
                              have hnc246 := NB375_355.out
                              have hcz247_0 : wc.cell? ⟨gb355, 0, none⟩ = some (.int .i64 t351) := (blk_cell BK355.out 0).trans rfl
                              have hcz247_1 : wc.cell? ⟨gb355, 1, none⟩ = some (.int .i64 t352) := (blk_cell BK355.out 1).trans rfl
                              have hcz247_2 : wc.cell? ⟨gb355, 2, none⟩ = some (.string t353) := (blk_cell BK355.out 2).trans rfl
                              have hfz247_0 := blk_frozen BK355.out 0
                              have hfz247_1 := blk_frozen BK355.out 1
                              have hfz247_2 := blk_frozen BK355.out 2
                              go_wp2_with (first | ((with_reducible refine gate_callee (f := 42) rfl ?_); refine goesL_ (some 109) rfl rfl Try.func42 (by kernel_rfl) rfl #[.agg #[.int .i64 t366, .int .i64 t367, .string t368], .agg #[.int .i64 t351, .int .i64 t352, .string t353]] rfl (by (try simp only [List.map_toArray, List.map_cons, List.map_nil]); first | done | rfl | (simp only [List.length_drop, List.length_take]; rfl)) ?_; (with_reducible refine (value_Mul.calls t366 t367 t368 t351 t352 t353 t377 t378 t379 t380 _ A116.out).mono ?_); rintro e w248 ⟨rfl, hb⟩; refine ⟨_, rfl, ?_⟩; have n0_ := Aside0.mk (blk_below (g := gb354) (o := .cells #[.int .i64 t348, .int .i64 t349, .string t350] 33 (0, 0)) (by (with_reducible repeat (first | refine blk_drewN ?_ _ | refine blk_drew ?_ | refine blk_alloc ?_ _)); exact BK354.out) hb); have n1_ := Aside0.mk (blk_below (g := gb355) (o := .cells #[.int .i64 t351, .int .i64 t352, .string t353] 33 (0, 0)) (by (with_reducible repeat (first | refine blk_drewN ?_ _ | refine blk_drew ?_ | refine blk_alloc ?_ _)); exact BK355.out) hb); have n2_ := Aside0.mk (blk_below (g := gb360) (o := .cells #[.int .i64 t356, .int .i64 t357, .string t358] 33 (0, 0)) (by (with_reducible repeat (first | refine blk_drewN ?_ _ | refine blk_drew ?_ | refine blk_alloc ?_ _)); exact BK360.out) hb); have n3_ := Aside0.mk (blk_below (g := gb370) (o := .cells #[.int .i64 t366, .int .i64 t367, .string t368] 33 (0, 0)) (by (with_reducible repeat (first | refine blk_drewN ?_ _ | refine blk_drew ?_ | refine blk_alloc ?_ _)); exact BK370.out) hb); have n4_ := Aside0.mk (blk_below (g := gb375) (o := .cells #[.int .i64 t371, .int .i64 t372, .string t373] 33 (0, 0)) (by (with_reducible repeat (first | refine blk_drewN ?_ _ | refine blk_drew ?_ | refine blk_alloc ?_ _)); exact BK375.out) hb); have n5_ := Aside0.mk (below_step (by repeat (first | (with_reducible first | exact HB.out | apply below_alloc | apply pw_below_drewN | apply below_drew1 | refine below_set ?_ GE354.out | refine below_set ?_ GE355.out | refine below_set ?_ GE360.out | refine below_set ?_ GE370.out | refine below_set ?_ GE375.out) | exact HB.out)) hb); clear BK354; clear BK355; clear BK360; clear BK370; clear BK375; clear HB; have BK354 := n0_; have BK355 := n1_; have BK360 := n2_; have BK370 := n3_; have BK375 := n4_; have HB := n5_; clear n0_ n1_ n2_ n3_ n4_ n5_; (try clear hb); (try clear hb2); (try clear hk); (try clear hi)) | ((with_reducible refine gate_dst (N := 15) rfl ?_); refine box_event ?hg (N := 15) ?hd (cs := #[.int .i64 0, .int .i64 0, .string (⟨#[]⟩ : ByteArray)]) (t := 33) ?hr ?_; (case hd => rfl); (case hg => rfl); (case hr => first | (go_simp; done) | (go_simp; rfl)); intro gb381 hg w249 hbox hb; have n0_ := Aside0.mk (blk_below (g := gb354) (o := .cells #[.int .i64 t348, .int .i64 t349, .string t350] 33 (0, 0)) (by (with_reducible repeat (first | refine blk_drewN ?_ _ | refine blk_drew ?_ | refine blk_alloc ?_ _)); exact BK354.out) hb); have n1_ := Aside0.mk (blk_below (g := gb355) (o := .cells #[.int .i64 t351, .int .i64 t352, .string t353] 33 (0, 0)) (by (with_reducible repeat (first | refine blk_drewN ?_ _ | refine blk_drew ?_ | refine blk_alloc ?_ _)); exact BK355.out) hb); have n2_ := Aside0.mk (blk_below (g := gb360) (o := .cells #[.int .i64 t356, .int .i64 t357, .string t358] 33 (0, 0)) (by (with_reducible repeat (first | refine blk_drewN ?_ _ | refine blk_drew ?_ | refine blk_alloc ?_ _)); exact BK360.out) hb); have n3_ := Aside0.mk (blk_below (g := gb370) (o := .cells #[.int .i64 t366, .int .i64 t367, .string t368] 33 (0, 0)) (by (with_reducible repeat (first | refine blk_drewN ?_ _ | refine blk_drew ?_ | refine blk_alloc ?_ _)); exact BK370.out) hb); have n4_ := Aside0.mk (blk_below (g := gb375) (o := .cells #[.int .i64 t371, .int .i64 t372, .string t373] 33 (0, 0)) (by (with_reducible repeat (first | refine blk_drewN ?_ _ | refine blk_drew ?_ | refine blk_alloc ?_ _)); exact BK375.out) hb); have n5_ := Aside0.mk (below_step (by repeat (first | (with_reducible first | exact HB.out | apply below_alloc | apply pw_below_drewN | apply below_drew1 | refine below_set ?_ GE354.out | refine below_set ?_ GE355.out | refine below_set ?_ GE360.out | refine below_set ?_ GE370.out | refine below_set ?_ GE375.out) | exact HB.out)) hb); have n6_ := Aside0.mk (hbox); have n7_ := Aside0.mk ((by rw [hg]; exact (below_size (by repeat (first | (with_reducible first | exact HB.out | apply below_alloc | apply pw_below_drewN | apply below_drew1 | refine below_set ?_ GE354.out | refine below_set ?_ GE355.out | refine below_set ?_ GE360.out | refine below_set ?_ GE370.out | refine below_set ?_ GE375.out) | exact HB.out))) : w.heap.size ≤ gb381)); have n8_ := Aside0.mk ((by rw [hg]; exact (below_size (by repeat (first | (with_reducible first | exact HB.out | apply below_alloc | apply pw_below_drewN | apply below_drew1 | refine below_set ?_ GE354.out | refine below_set ?_ GE355.out | refine below_set ?_ GE360.out | refine below_set ?_ GE370.out | refine below_set ?_ GE375.out) | exact HB.out))) : w.heap.size ≤ gb381)); have n9_ := Aside0.mk ((by rw [hg]; exact Nat.ne_of_lt (blk_lt (g := gb354) (o := .cells #[.int .i64 t348, .int .i64 t349, .string t350] 33 (0, 0)) (by (with_reducible repeat (first | refine blk_drewN ?_ _ | refine blk_drew ?_ | refine blk_alloc ?_ _)); exact BK354.out)) : gb354 ≠ gb381)); have n10_ := Aside0.mk ((by rw [hg]; exact Nat.ne_of_gt (blk_lt (g := gb354) (o := .cells #[.int .i64 t348, .int .i64 t349, .string t350] 33 (0, 0)) (by (with_reducible repeat (first | refine blk_drewN ?_ _ | refine blk_drew ?_ | refine blk_alloc ?_ _)); exact BK354.out)) : gb381 ≠ gb354)); have n11_ := Aside0.mk ((by rw [hg]; exact Nat.ne_of_lt (blk_lt (g := gb355) (o := .cells #[.int .i64 t351, .int .i64 t352, .string t353] 33 (0, 0)) (by (with_reducible repeat (first | refine blk_drewN ?_ _ | refine blk_drew ?_ | refine blk_alloc ?_ _)); exact BK355.out)) : gb355 ≠ gb381)); have n12_ := Aside0.mk ((by rw [hg]; exact Nat.ne_of_gt (blk_lt (g := gb355) (o := .cells #[.int .i64 t351, .int .i64 t352, .string t353] 33 (0, 0)) (by (with_reducible repeat (first | refine blk_drewN ?_ _ | refine blk_drew ?_ | refine blk_alloc ?_ _)); exact BK355.out)) : gb381 ≠ gb355)); have n13_ := Aside0.mk ((by rw [hg]; exact Nat.ne_of_lt (blk_lt (g := gb360) (o := .cells #[.int .i64 t356, .int .i64 t357, .string t358] 33 (0, 0)) (by (with_reducible repeat (first | refine blk_drewN ?_ _ | refine blk_drew ?_ | refine blk_alloc ?_ _)); exact BK360.out)) : gb360 ≠ gb381)); have n14_ := Aside0.mk ((by rw [hg]; exact Nat.ne_of_gt (blk_lt (g := gb360) (o := .cells #[.int .i64 t356, .int .i64 t357, .string t358] 33 (0, 0)) (by (with_reducible repeat (first | refine blk_drewN ?_ _ | refine blk_drew ?_ | refine blk_alloc ?_ _)); exact BK360.out)) : gb381 ≠ gb360)); have n15_ := Aside0.mk ((by rw [hg]; exact Nat.ne_of_lt (blk_lt (g := gb370) (o := .cells #[.int .i64 t366, .int .i64 t367, .string t368] 33 (0, 0)) (by (with_reducible repeat (first | refine blk_drewN ?_ _ | refine blk_drew ?_ | refine blk_alloc ?_ _)); exact BK370.out)) : gb370 ≠ gb381)); have n16_ := Aside0.mk ((by rw [hg]; exact Nat.ne_of_gt (blk_lt (g := gb370) (o := .cells #[.int .i64 t366, .int .i64 t367, .string t368] 33 (0, 0)) (by (with_reducible repeat (first | refine blk_drewN ?_ _ | refine blk_drew ?_ | refine blk_alloc ?_ _)); exact BK370.out)) : gb381 ≠ gb370)); have n17_ := Aside0.mk ((by rw [hg]; exact Nat.ne_of_lt (blk_lt (g := gb375) (o := .cells #[.int .i64 t371, .int .i64 t372, .string t373] 33 (0, 0)) (by (with_reducible repeat (first | refine blk_drewN ?_ _ | refine blk_drew ?_ | refine blk_alloc ?_ _)); exact BK375.out)) : gb375 ≠ gb381)); have n18_ := Aside0.mk ((by rw [hg]; exact Nat.ne_of_gt (blk_lt (g := gb375) (o := .cells #[.int .i64 t371, .int .i64 t372, .string t373] 33 (0, 0)) (by (with_reducible repeat (first | refine blk_drewN ?_ _ | refine blk_drew ?_ | refine blk_alloc ?_ _)); exact BK375.out)) : gb381 ≠ gb375)); clear BK354; clear BK355; clear BK360; clear BK370; clear BK375; clear HB; have BK354 := n0_; have BK355 := n1_; have BK360 := n2_; have BK370 := n3_; have BK375 := n4_; have HB := n5_; have BK381 := n6_; have GW381 := n7_; have GE381 := n8_; have NB354_381 := n9_; have NB381_354 := n10_; have NB355_381 := n11_; have NB381_355 := n12_; have NB360_381 := n13_; have NB381_360 := n14_; have NB370_381 := n15_; have NB381_370 := n16_; have NB375_381 := n17_; have NB381_375 := n18_; clear n0_ n1_ n2_ n3_ n4_ n5_ n6_ n7_ n8_ n9_ n10_ n11_ n12_ n13_ n14_ n15_ n16_ n17_ n18_; clear hb hbox hg; have hnb250 := NB381_354.out; have hnc250 := NB354_381.out; have hnb251 := NB381_355.out; have hnc251 := NB355_381.out; have hnb252 := NB381_360.out; have hnc252 := NB360_381.out; have hnb253 := NB381_370.out; have hnc253 := NB370_381.out; have hnb254 := NB381_375.out; have hnc254 := NB375_381.out; have hcz255_0 : w249.cell? ⟨gb381, 0, none⟩ = some (.int .i64 0) := (blk_cell BK381.out 0).trans rfl; have hcz255_1 : w249.cell? ⟨gb381, 1, none⟩ = some (.int .i64 0) := (blk_cell BK381.out 1).trans rfl; have hcz255_2 : w249.cell? ⟨gb381, 2, none⟩ = some (.string (⟨#[]⟩ : ByteArray)) := (blk_cell BK381.out 2).trans rfl; have hfz255_0 := blk_frozen BK381.out 0; have hfz255_1 := blk_frozen BK381.out 1; have hfz255_2 := blk_frozen BK381.out 2; have hnb256 := NB375_354.out; have hnc256 := NB354_375.out; have hnb257 := NB375_360.out; have hnc257 := NB360_375.out; have hcz258_0 : w249.cell? ⟨gb375, 0, none⟩ = some (.int .i64 t371) := (blk_cell BK375.out 0).trans rfl; have hcz258_1 : w249.cell? ⟨gb375, 1, none⟩ = some (.int .i64 t372) := (blk_cell BK375.out 1).trans rfl; have hcz258_2 : w249.cell? ⟨gb375, 2, none⟩ = some (.string t373) := (blk_cell BK375.out 2).trans rfl; have hfz258_0 := blk_frozen BK375.out 0; have hfz258_1 := blk_frozen BK375.out 1; have hfz258_2 := blk_frozen BK375.out 2) | ((with_reducible refine gate_callee (f := 44) rfl ?_); refine goesL_ (some 115) rfl rfl Try.func44 (by kernel_rfl) rfl #[.agg #[.int .i64 t377, .int .i64 t378, .string t379], .agg #[.int .i64 t371, .int .i64 t372, .string t373]] rfl (by (try simp only [List.map_toArray, List.map_cons, List.map_nil]); first | done | rfl | (simp only [List.length_drop, List.length_take]; rfl)) ?_; (with_reducible refine (value_Add.calls t377 t378 t379 t371 t372 t373 t382 t383 t384 t385 _ A117.out).mono ?_); rintro e w259 ⟨rfl, hb⟩; refine ⟨_, rfl, ?_⟩; have n0_ := Aside0.mk (blk_below (g := gb354) (o := .cells #[.int .i64 t348, .int .i64 t349, .string t350] 33 (0, 0)) (by (with_reducible repeat (first | refine blk_drewN ?_ _ | refine blk_drew ?_ | refine blk_alloc ?_ _)); refine blk_far ?_ NB354_381.out _; (with_reducible repeat (first | refine blk_drewN ?_ _ | refine blk_drew ?_ | refine blk_alloc ?_ _)); refine blk_far ?_ NB354_381.out _; (with_reducible repeat (first | refine blk_drewN ?_ _ | refine blk_drew ?_ | refine blk_alloc ?_ _)); refine blk_far ?_ NB354_381.out _; (with_reducible repeat (first | refine blk_drewN ?_ _ | refine blk_drew ?_ | refine blk_alloc ?_ _)); exact BK354.out) hb); have n1_ := Aside0.mk (blk_below (g := gb355) (o := .cells #[.int .i64 t351, .int .i64 t352, .string t353] 33 (0, 0)) (by (with_reducible repeat (first | refine blk_drewN ?_ _ | refine blk_drew ?_ | refine blk_alloc ?_ _)); refine blk_far ?_ NB355_381.out _; (with_reducible repeat (first | refine blk_drewN ?_ _ | refine blk_drew ?_ | refine blk_alloc ?_ _)); refine blk_far ?_ NB355_381.out _; (with_reducible repeat (first | refine blk_drewN ?_ _ | refine blk_drew ?_ | refine blk_alloc ?_ _)); refine blk_far ?_ NB355_381.out _; (with_reducible repeat (first | refine blk_drewN ?_ _ | refine blk_drew ?_ | refine blk_alloc ?_ _)); exact BK355.out) hb); have n2_ := Aside0.mk (blk_below (g := gb360) (o := .cells #[.int .i64 t356, .int .i64 t357, .string t358] 33 (0, 0)) (by (with_reducible repeat (first | refine blk_drewN ?_ _ | refine blk_drew ?_ | refine blk_alloc ?_ _)); refine blk_far ?_ NB360_381.out _; (with_reducible repeat (first | refine blk_drewN ?_ _ | refine blk_drew ?_ | refine blk_alloc ?_ _)); refine blk_far ?_ NB360_381.out _; (with_reducible repeat (first | refine blk_drewN ?_ _ | refine blk_drew ?_ | refine blk_alloc ?_ _)); refine blk_far ?_ NB360_381.out _; (with_reducible repeat (first | refine blk_drewN ?_ _ | refine blk_drew ?_ | refine blk_alloc ?_ _)); exact BK360.out) hb); have n3_ := Aside0.mk (blk_below (g := gb370) (o := .cells #[.int .i64 t366, .int .i64 t367, .string t368] 33 (0, 0)) (by (with_reducible repeat (first | refine blk_drewN ?_ _ | refine blk_drew ?_ | refine blk_alloc ?_ _)); refine blk_far ?_ NB370_381.out _; (with_reducible repeat (first | refine blk_drewN ?_ _ | refine blk_drew ?_ | refine blk_alloc ?_ _)); refine blk_far ?_ NB370_381.out _; (with_reducible repeat (first | refine blk_drewN ?_ _ | refine blk_drew ?_ | refine blk_alloc ?_ _)); refine blk_far ?_ NB370_381.out _; (with_reducible repeat (first | refine blk_drewN ?_ _ | refine blk_drew ?_ | refine blk_alloc ?_ _)); exact BK370.out) hb); have n4_ := Aside0.mk (blk_below (g := gb375) (o := .cells #[.int .i64 t371, .int .i64 t372, .string t373] 33 (0, 0)) (by (with_reducible repeat (first | refine blk_drewN ?_ _ | refine blk_drew ?_ | refine blk_alloc ?_ _)); refine blk_far ?_ NB375_381.out _; (with_reducible repeat (first | refine blk_drewN ?_ _ | refine blk_drew ?_ | refine blk_alloc ?_ _)); refine blk_far ?_ NB375_381.out _; (with_reducible repeat (first | refine blk_drewN ?_ _ | refine blk_drew ?_ | refine blk_alloc ?_ _)); refine blk_far ?_ NB375_381.out _; (with_reducible repeat (first | refine blk_drewN ?_ _ | refine blk_drew ?_ | refine blk_alloc ?_ _)); exact BK375.out) hb); have n5_ := Aside0.mk (blk_below (g := gb381) (o := .cells #[.int .i64 t377, .int .i64 t378, .string t379] 33 (0, 0)) (by (with_reducible repeat (first | refine blk_drewN ?_ _ | refine blk_drew ?_ | refine blk_alloc ?_ _)); refine blk_put (cs := #[.int .i64 t377, .int .i64 t378, .string (⟨#[]⟩ : ByteArray)]) ?_ 2 _ rfl; (with_reducible repeat (first | refine blk_drewN ?_ _ | refine blk_drew ?_ | refine blk_alloc ?_ _)); refine blk_put (cs := #[.int .i64 t377, .int .i64 0, .string (⟨#[]⟩ : ByteArray)]) ?_ 1 _ rfl; (with_reducible repeat (first | refine blk_drewN ?_ _ | refine blk_drew ?_ | refine blk_alloc ?_ _)); refine blk_put (cs := #[.int .i64 0, .int .i64 0, .string (⟨#[]⟩ : ByteArray)]) ?_ 0 _ rfl; (with_reducible repeat (first | refine blk_drewN ?_ _ | refine blk_drew ?_ | refine blk_alloc ?_ _)); exact BK381.out) hb); have n6_ := Aside0.mk (below_step (by repeat (first | (with_reducible first | exact HB.out | apply below_alloc | apply pw_below_drewN | apply below_drew1 | refine below_set ?_ GE354.out | refine below_set ?_ GE355.out | refine below_set ?_ GE360.out | refine below_set ?_ GE370.out | refine below_set ?_ GE375.out | refine below_set ?_ GE381.out) | exact HB.out)) hb); clear BK354; clear BK355; clear BK360; clear BK370; clear BK375; clear BK381; clear HB; have BK354 := n0_; have BK355 := n1_; have BK360 := n2_; have BK370 := n3_; have BK375 := n4_; have BK381 := n5_; have HB := n6_; clear n0_ n1_ n2_ n3_ n4_ n5_ n6_; (try clear hb); (try clear hb2); (try clear hk); (try clear hi)) | ((with_reducible refine gate_dst (N := 17) rfl ?_); refine box_event ?hg (N := 17) ?hd (cs := #[.int .i64 0, .int .i64 0, .string (⟨#[]⟩ : ByteArray)]) (t := 33) ?hr ?_; (case hd => rfl); (case hg => rfl); (case hr => first | (go_simp; done) | (go_simp; rfl)); intro gb386 hg w260 hbox hb; have n0_ := Aside0.mk (blk_below (g := gb354) (o := .cells #[.int .i64 t348, .int .i64 t349, .string t350] 33 (0, 0)) (by (with_reducible repeat (first | refine blk_drewN ?_ _ | refine blk_drew ?_ | refine blk_alloc ?_ _)); exact BK354.out) hb); have n1_ := Aside0.mk (blk_below (g := gb355) (o := .cells #[.int .i64 t351, .int .i64 t352, .string t353] 33 (0, 0)) (by (with_reducible repeat (first | refine blk_drewN ?_ _ | refine blk_drew ?_ | refine blk_alloc ?_ _)); exact BK355.out) hb); have n2_ := Aside0.mk (blk_below (g := gb360) (o := .cells #[.int .i64 t356, .int .i64 t357, .string t358] 33 (0, 0)) (by (with_reducible repeat (first | refine blk_drewN ?_ _ | refine blk_drew ?_ | refine blk_alloc ?_ _)); exact BK360.out) hb); have n3_ := Aside0.mk (blk_below (g := gb370) (o := .cells #[.int .i64 t366, .int .i64 t367, .string t368] 33 (0, 0)) (by (with_reducible repeat (first | refine blk_drewN ?_ _ | refine blk_drew ?_ | refine blk_alloc ?_ _)); exact BK370.out) hb); have n4_ := Aside0.mk (blk_below (g := gb375) (o := .cells #[.int .i64 t371, .int .i64 t372, .string t373] 33 (0, 0)) (by (with_reducible repeat (first | refine blk_drewN ?_ _ | refine blk_drew ?_ | refine blk_alloc ?_ _)); exact BK375.out) hb); have n5_ := Aside0.mk (blk_below (g := gb381) (o := .cells #[.int .i64 t377, .int .i64 t378, .string t379] 33 (0, 0)) (by (with_reducible repeat (first | refine blk_drewN ?_ _ | refine blk_drew ?_ | refine blk_alloc ?_ _)); exact BK381.out) hb); have n6_ := Aside0.mk (below_step (by repeat (first | (with_reducible first | exact HB.out | apply below_alloc | apply pw_below_drewN | apply below_drew1 | refine below_set ?_ GE354.out | refine below_set ?_ GE355.out | refine below_set ?_ GE360.out | refine below_set ?_ GE370.out | refine below_set ?_ GE375.out | refine below_set ?_ GE381.out) | exact HB.out)) hb); have n7_ := Aside0.mk (hbox); have n8_ := Aside0.mk ((by rw [hg]; exact (below_size (by repeat (first | (with_reducible first | exact HB.out | apply below_alloc | apply pw_below_drewN | apply below_drew1 | refine below_set ?_ GE354.out | refine below_set ?_ GE355.out | refine below_set ?_ GE360.out | refine below_set ?_ GE370.out | refine below_set ?_ GE375.out | refine below_set ?_ GE381.out) | exact HB.out))) : w.heap.size ≤ gb386)); have n9_ := Aside0.mk ((by rw [hg]; exact (below_size (by repeat (first | (with_reducible first | exact HB.out | apply below_alloc | apply pw_below_drewN | apply below_drew1 | refine below_set ?_ GE354.out | refine below_set ?_ GE355.out | refine below_set ?_ GE360.out | refine below_set ?_ GE370.out | refine below_set ?_ GE375.out | refine below_set ?_ GE381.out) | exact HB.out))) : w.heap.size ≤ gb386)); have n10_ := Aside0.mk ((by rw [hg]; exact Nat.ne_of_lt (blk_lt (g := gb354) (o := .cells #[.int .i64 t348, .int .i64 t349, .string t350] 33 (0, 0)) (by (with_reducible repeat (first | refine blk_drewN ?_ _ | refine blk_drew ?_ | refine blk_alloc ?_ _)); exact BK354.out)) : gb354 ≠ gb386)); have n11_ := Aside0.mk ((by rw [hg]; exact Nat.ne_of_gt (blk_lt (g := gb354) (o := .cells #[.int .i64 t348, .int .i64 t349, .string t350] 33 (0, 0)) (by (with_reducible repeat (first | refine blk_drewN ?_ _ | refine blk_drew ?_ | refine blk_alloc ?_ _)); exact BK354.out)) : gb386 ≠ gb354)); have n12_ := Aside0.mk ((by rw [hg]; exact Nat.ne_of_lt (blk_lt (g := gb355) (o := .cells #[.int .i64 t351, .int .i64 t352, .string t353] 33 (0, 0)) (by (with_reducible repeat (first | refine blk_drewN ?_ _ | refine blk_drew ?_ | refine blk_alloc ?_ _)); exact BK355.out)) : gb355 ≠ gb386)); have n13_ := Aside0.mk ((by rw [hg]; exact Nat.ne_of_gt (blk_lt (g := gb355) (o := .cells #[.int .i64 t351, .int .i64 t352, .string t353] 33 (0, 0)) (by (with_reducible repeat (first | refine blk_drewN ?_ _ | refine blk_drew ?_ | refine blk_alloc ?_ _)); exact BK355.out)) : gb386 ≠ gb355)); have n14_ := Aside0.mk ((by rw [hg]; exact Nat.ne_of_lt (blk_lt (g := gb360) (o := .cells #[.int .i64 t356, .int .i64 t357, .string t358] 33 (0, 0)) (by (with_reducible repeat (first | refine blk_drewN ?_ _ | refine blk_drew ?_ | refine blk_alloc ?_ _)); exact BK360.out)) : gb360 ≠ gb386)); have n15_ := Aside0.mk ((by rw [hg]; exact Nat.ne_of_gt (blk_lt (g := gb360) (o := .cells #[.int .i64 t356, .int .i64 t357, .string t358] 33 (0, 0)) (by (with_reducible repeat (first | refine blk_drewN ?_ _ | refine blk_drew ?_ | refine blk_alloc ?_ _)); exact BK360.out)) : gb386 ≠ gb360)); have n16_ := Aside0.mk ((by rw [hg]; exact Nat.ne_of_lt (blk_lt (g := gb370) (o := .cells #[.int .i64 t366, .int .i64 t367, .string t368] 33 (0, 0)) (by (with_reducible repeat (first | refine blk_drewN ?_ _ | refine blk_drew ?_ | refine blk_alloc ?_ _)); exact BK370.out)) : gb370 ≠ gb386)); have n17_ := Aside0.mk ((by rw [hg]; exact Nat.ne_of_gt (blk_lt (g := gb370) (o := .cells #[.int .i64 t366, .int .i64 t367, .string t368] 33 (0, 0)) (by (with_reducible repeat (first | refine blk_drewN ?_ _ | refine blk_drew ?_ | refine blk_alloc ?_ _)); exact BK370.out)) : gb386 ≠ gb370)); have n18_ := Aside0.mk ((by rw [hg]; exact Nat.ne_of_lt (blk_lt (g := gb375) (o := .cells #[.int .i64 t371, .int .i64 t372, .string t373] 33 (0, 0)) (by (with_reducible repeat (first | refine blk_drewN ?_ _ | refine blk_drew ?_ | refine blk_alloc ?_ _)); exact BK375.out)) : gb375 ≠ gb386)); have n19_ := Aside0.mk ((by rw [hg]; exact Nat.ne_of_gt (blk_lt (g := gb375) (o := .cells #[.int .i64 t371, .int .i64 t372, .string t373] 33 (0, 0)) (by (with_reducible repeat (first | refine blk_drewN ?_ _ | refine blk_drew ?_ | refine blk_alloc ?_ _)); exact BK375.out)) : gb386 ≠ gb375)); have n20_ := Aside0.mk ((by rw [hg]; exact Nat.ne_of_lt (blk_lt (g := gb381) (o := .cells #[.int .i64 t377, .int .i64 t378, .string t379] 33 (0, 0)) (by (with_reducible repeat (first | refine blk_drewN ?_ _ | refine blk_drew ?_ | refine blk_alloc ?_ _)); exact BK381.out)) : gb381 ≠ gb386)); have n21_ := Aside0.mk ((by rw [hg]; exact Nat.ne_of_gt (blk_lt (g := gb381) (o := .cells #[.int .i64 t377, .int .i64 t378, .string t379] 33 (0, 0)) (by (with_reducible repeat (first | refine blk_drewN ?_ _ | refine blk_drew ?_ | refine blk_alloc ?_ _)); exact BK381.out)) : gb386 ≠ gb381)); clear BK354; clear BK355; clear BK360; clear BK370; clear BK375; clear BK381; clear HB; have BK354 := n0_; have BK355 := n1_; have BK360 := n2_; have BK370 := n3_; have BK375 := n4_; have BK381 := n5_; have HB := n6_; have BK386 := n7_; have GW386 := n8_; have GE386 := n9_; have NB354_386 := n10_; have NB386_354 := n11_; have NB355_386 := n12_; have NB386_355 := n13_; have NB360_386 := n14_; have NB386_360 := n15_; have NB370_386 := n16_; have NB386_370 := n17_; have NB375_386 := n18_; have NB386_375 := n19_; have NB381_386 := n20_; have NB386_381 := n21_; clear n0_ n1_ n2_ n3_ n4_ n5_ n6_ n7_ n8_ n9_ n10_ n11_ n12_ n13_ n14_ n15_ n16_ n17_ n18_ n19_ n20_ n21_; clear hb hbox hg; have hnb261 := NB386_354.out; have hnc261 := NB354_386.out; have hnb262 := NB386_355.out; have hnc262 := NB355_386.out; have hnb263 := NB386_360.out; have hnc263 := NB360_386.out; have hnb264 := NB386_370.out; have hnc264 := NB370_386.out; have hnb265 := NB386_375.out; have hnc265 := NB375_386.out; have hnb266 := NB386_381.out; have hnc266 := NB381_386.out; have hcz267_0 : w260.cell? ⟨gb386, 0, none⟩ = some (.int .i64 0) := (blk_cell BK386.out 0).trans rfl; have hcz267_1 : w260.cell? ⟨gb386, 1, none⟩ = some (.int .i64 0) := (blk_cell BK386.out 1).trans rfl; have hcz267_2 : w260.cell? ⟨gb386, 2, none⟩ = some (.string (⟨#[]⟩ : ByteArray)) := (blk_cell BK386.out 2).trans rfl; have hfz267_0 := blk_frozen BK386.out 0; have hfz267_1 := blk_frozen BK386.out 1; have hfz267_2 := blk_frozen BK386.out 2; have hcz268_0 : w260.cell? ⟨gb375, 0, none⟩ = some (.int .i64 t371) := (blk_cell BK375.out 0).trans rfl; have hcz268_1 : w260.cell? ⟨gb375, 1, none⟩ = some (.int .i64 t372) := (blk_cell BK375.out 1).trans rfl; have hcz268_2 : w260.cell? ⟨gb375, 2, none⟩ = some (.string t373) := (blk_cell BK375.out 2).trans rfl; have hfz268_0 := blk_frozen BK375.out 0; have hfz268_1 := blk_frozen BK375.out 1; have hfz268_2 := blk_frozen BK375.out 2; have hnb269 := NB354_360.out; have hnc269 := NB360_354.out; have hcz270_0 : w260.cell? ⟨gb354, 0, none⟩ = some (.int .i64 t348) := (blk_cell BK354.out 0).trans rfl; have hcz270_1 : w260.cell? ⟨gb354, 1, none⟩ = some (.int .i64 t349) := (blk_cell BK354.out 1).trans rfl; have hcz270_2 : w260.cell? ⟨gb354, 2, none⟩ = some (.string t350) := (blk_cell BK354.out 2).trans rfl; have hfz270_0 := blk_frozen BK354.out 0; have hfz270_1 := blk_frozen BK354.out 1; have hfz270_2 := blk_frozen BK354.out 2) | (go_at_call 25; (with_reducible refine (cordonlaw01_alive.calls  true _ A238.out).mono ?_); rintro e w271 ⟨rfl, hb⟩; have n0_ := Aside0.mk (blk_below (g := gb354) (o := .cells #[.int .i64 t348, .int .i64 t349, .string t350] 33 (0, 0)) (by (with_reducible repeat (first | refine blk_drewN ?_ _ | refine blk_drew ?_ | refine blk_alloc ?_ _)); refine blk_far ?_ NB354_386.out _; (with_reducible repeat (first | refine blk_drewN ?_ _ | refine blk_drew ?_ | refine blk_alloc ?_ _)); refine blk_far ?_ NB354_386.out _; (with_reducible repeat (first | refine blk_drewN ?_ _ | refine blk_drew ?_ | refine blk_alloc ?_ _)); refine blk_far ?_ NB354_386.out _; (with_reducible repeat (first | refine blk_drewN ?_ _ | refine blk_drew ?_ | refine blk_alloc ?_ _)); exact BK354.out) hb); have n1_ := Aside0.mk (blk_below (g := gb355) (o := .cells #[.int .i64 t351, .int .i64 t352, .string t353] 33 (0, 0)) (by (with_reducible repeat (first | refine blk_drewN ?_ _ | refine blk_drew ?_ | refine blk_alloc ?_ _)); refine blk_far ?_ NB355_386.out _; (with_reducible repeat (first | refine blk_drewN ?_ _ | refine blk_drew ?_ | refine blk_alloc ?_ _)); refine blk_far ?_ NB355_386.out _; (with_reducible repeat (first | refine blk_drewN ?_ _ | refine blk_drew ?_ | refine blk_alloc ?_ _)); refine blk_far ?_ NB355_386.out _; (with_reducible repeat (first | refine blk_drewN ?_ _ | refine blk_drew ?_ | refine blk_alloc ?_ _)); exact BK355.out) hb); have n2_ := Aside0.mk (blk_below (g := gb360) (o := .cells #[.int .i64 t356, .int .i64 t357, .string t358] 33 (0, 0)) (by (with_reducible repeat (first | refine blk_drewN ?_ _ | refine blk_drew ?_ | refine blk_alloc ?_ _)); refine blk_far ?_ NB360_386.out _; (with_reducible repeat (first | refine blk_drewN ?_ _ | refine blk_drew ?_ | refine blk_alloc ?_ _)); refine blk_far ?_ NB360_386.out _; (with_reducible repeat (first | refine blk_drewN ?_ _ | refine blk_drew ?_ | refine blk_alloc ?_ _)); refine blk_far ?_ NB360_386.out _; (with_reducible repeat (first | refine blk_drewN ?_ _ | refine blk_drew ?_ | refine blk_alloc ?_ _)); exact BK360.out) hb); have n3_ := Aside0.mk (blk_below (g := gb370) (o := .cells #[.int .i64 t366, .int .i64 t367, .string t368] 33 (0, 0)) (by (with_reducible repeat (first | refine blk_drewN ?_ _ | refine blk_drew ?_ | refine blk_alloc ?_ _)); refine blk_far ?_ NB370_386.out _; (with_reducible repeat (first | refine blk_drewN ?_ _ | refine blk_drew ?_ | refine blk_alloc ?_ _)); refine blk_far ?_ NB370_386.out _; (with_reducible repeat (first | refine blk_drewN ?_ _ | refine blk_drew ?_ | refine blk_alloc ?_ _)); refine blk_far ?_ NB370_386.out _; (with_reducible repeat (first | refine blk_drewN ?_ _ | refine blk_drew ?_ | refine blk_alloc ?_ _)); exact BK370.out) hb); have n4_ := Aside0.mk (blk_below (g := gb375) (o := .cells #[.int .i64 t371, .int .i64 t372, .string t373] 33 (0, 0)) (by (with_reducible repeat (first | refine blk_drewN ?_ _ | refine blk_drew ?_ | refine blk_alloc ?_ _)); refine blk_far ?_ NB375_386.out _; (with_reducible repeat (first | refine blk_drewN ?_ _ | refine blk_drew ?_ | refine blk_alloc ?_ _)); refine blk_far ?_ NB375_386.out _; (with_reducible repeat (first | refine blk_drewN ?_ _ | refine blk_drew ?_ | refine blk_alloc ?_ _)); refine blk_far ?_ NB375_386.out _; (with_reducible repeat (first | refine blk_drewN ?_ _ | refine blk_drew ?_ | refine blk_alloc ?_ _)); exact BK375.out) hb); have n5_ := Aside0.mk (blk_below (g := gb381) (o := .cells #[.int .i64 t377, .int .i64 t378, .string t379] 33 (0, 0)) (by (with_reducible repeat (first | refine blk_drewN ?_ _ | refine blk_drew ?_ | refine blk_alloc ?_ _)); refine blk_far ?_ NB381_386.out _; (with_reducible repeat (first | refine blk_drewN ?_ _ | refine blk_drew ?_ | refine blk_alloc ?_ _)); refine blk_far ?_ NB381_386.out _; (with_reducible repeat (first | refine blk_drewN ?_ _ | refine blk_drew ?_ | refine blk_alloc ?_ _)); refine blk_far ?_ NB381_386.out _; (with_reducible repeat (first | refine blk_drewN ?_ _ | refine blk_drew ?_ | refine blk_alloc ?_ _)); exact BK381.out) hb); have n6_ := Aside0.mk (blk_below (g := gb386) (o := .cells #[.int .i64 t382, .int .i64 t383, .string t384] 33 (0, 0)) (by (with_reducible repeat (first | refine blk_drewN ?_ _ | refine blk_drew ?_ | refine blk_alloc ?_ _)); refine blk_put (cs := #[.int .i64 t382, .int .i64 t383, .string (⟨#[]⟩ : ByteArray)]) ?_ 2 _ rfl; (with_reducible repeat (first | refine blk_drewN ?_ _ | refine blk_drew ?_ | refine blk_alloc ?_ _)); refine blk_put (cs := #[.int .i64 t382, .int .i64 0, .string (⟨#[]⟩ : ByteArray)]) ?_ 1 _ rfl; (with_reducible repeat (first | refine blk_drewN ?_ _ | refine blk_drew ?_ | refine blk_alloc ?_ _)); refine blk_put (cs := #[.int .i64 0, .int .i64 0, .string (⟨#[]⟩ : ByteArray)]) ?_ 0 _ rfl; (with_reducible repeat (first | refine blk_drewN ?_ _ | refine blk_drew ?_ | refine blk_alloc ?_ _)); exact BK386.out) hb); have n7_ := Aside0.mk (below_step (by repeat (first | (with_reducible first | exact HB.out | apply below_alloc | apply pw_below_drewN | apply below_drew1 | refine below_set ?_ GE354.out | refine below_set ?_ GE355.out | refine below_set ?_ GE360.out | refine below_set ?_ GE370.out | refine below_set ?_ GE375.out | refine below_set ?_ GE381.out | refine below_set ?_ GE386.out) | exact HB.out)) hb); clear BK354; clear BK355; clear BK360; clear BK370; clear BK375; clear BK381; clear BK386; clear HB; have BK354 := n0_; have BK355 := n1_; have BK360 := n2_; have BK370 := n3_; have BK375 := n4_; have BK381 := n5_; have BK386 := n6_; have HB := n7_; clear n0_ n1_ n2_ n3_ n4_ n5_ n6_ n7_; (try clear hb); (try clear hb2); (try clear hk); (try clear hi)))
                              go_ret
                              exact ⟨by first | rfl | (simp [errW_none, errW_some] <;> rfl) | (simp [*, errW_none, errW_some] <;> rfl), by repeat (first | (with_reducible first | exact HB.out | apply below_alloc | apply pw_below_drewN | apply below_drew1 | refine below_set ?_ GE354.out | refine below_set ?_ GE355.out | refine below_set ?_ GE360.out | refine below_set ?_ GE370.out | refine below_set ?_ GE375.out | refine below_set ?_ GE381.out | refine below_set ?_ GE386.out) | exact HB.out)⟩
                            · rw [if_neg c237] at H
                              have c237b0 : (a1 == (-9223372036854775808)) = false := beq_eq_false_iff_ne.mpr c237
                              have c237b1 : (a1 != (-9223372036854775808)) = true := bne_iff_ne.mpr c237
                              exact absurd H (by simp)
                          · rw [if_neg c236] at H
                            have c236b0 : (t382 == t348 && (t383 == t349 && (t384.toList == t350.toList))) = false := by simpa using c236
                            (try (have c236b1 : decide (t382 = t348 && (t383 == t349 && (t384.toList == t350.toList))) = false := by simpa using c236))
                            (try (have c236b2 : (t382 == t348 && (t383 == t349 && (t384.toList == t350.toList))) = false := by simpa using c236))
                            (try (have c236b3 : ¬ (t382 = t348 && (t383 == t349 && (t384.toList == t350.toList))) := by simpa using c236))
                            clear c236
                            exact absurd H (by simp)
                        · rw [if_neg c235] at H
                          have c235b0 : (t385 == 0) = false := beq_eq_false_iff_ne.mpr c235
                          have c235b1 : (t385 != 0) = true := bne_iff_ne.mpr c235
                          exact absurd H (by simp)
                      · rw [if_neg c234] at H
                        have c234b0 : (t380 == 0) = false := beq_eq_false_iff_ne.mpr c234
                        have c234b1 : (t380 != 0) = true := bne_iff_ne.mpr c234
                        exact absurd H (by simp)
                · exact absurd (by have z1_ := zm_.out; have z2_ : wrap64 (-a1) = (-9223372036854775808) := (by rw [HLE.out]; unfold wrap64; omega); have z3_ := HLE.out; omega : t372 > (wrap64 (-a1))) c118
              · rw [if_neg c115] at H
                have c115b0 : (t369 == 0) = false := beq_eq_false_iff_ne.mpr c115
                have c115b1 : (t369 != 0) = true := bne_iff_ne.mpr c115
                by_cases c387 : t369 = 4
                · rw [if_pos c387] at H
                  have c387b0 : (t369 == 4) = true := beq_iff_eq.mpr c387
                  have c387b1 : (t369 != 4) = false := bne_eq_false_iff_eq.mpr c387
                  clear c387
                  by_cases c388 : a1 = (-1)
                  · rw [if_pos c388] at H
                    have c388b0 : (a1 == (-1)) = true := beq_iff_eq.mpr c388
                    have c388b1 : (a1 != (-1)) = false := bne_eq_false_iff_eq.mpr c388
                    clear c388
                    by_cases c389 : t372 = 0
                    · rw [if_pos c389] at H
                      have c389b0 : (t372 == 0) = true := beq_iff_eq.mpr c389
                      have c389b1 : (t372 != 0) = false := bne_eq_false_iff_eq.mpr c389
                      clear c389
                      replace H := Option.bind_eq_some_iff.mp H
                      obtain ⟨t394, A3900, H⟩ := H
                      replace H : (some t394) = some true := H
                      have A390 := Aside0.mk A3900
                      clear A3900
                      obtain rfl := Option.some.inj H
                      have hnb391 := NB375_354.out
                      have hnc391 := NB354_375.out
                      have hnb392 := NB375_355.out
                      have hnc392 := NB355_375.out
                      have hnb393 := NB375_360.out
                      have hnc393 := NB360_375.out
                      have hnb394 := NB375_370.out
                      have hnc394 := NB370_375.out
                      have hcz395_0 : wc.cell? ⟨gb375, 0, none⟩ = some (.int .i64 t371) := (blk_cell BK375.out 0).trans rfl
                      have hcz395_1 : wc.cell? ⟨gb375, 1, none⟩ = some (.int .i64 t372) := (blk_cell BK375.out 1).trans rfl
                      have hcz395_2 : wc.cell? ⟨gb375, 2, none⟩ = some (.string t373) := (blk_cell BK375.out 2).trans rfl
                      have hfz395_0 := blk_frozen BK375.out 0
                      have hfz395_1 := blk_frozen BK375.out 1
                      have hfz395_2 := blk_frozen BK375.out 2
                      go_wp2_with (first | (go_at_call 25; (with_reducible refine (cordonlaw01_alive.calls  true _ A390.out).mono ?_); rintro e w396 ⟨rfl, hb⟩; have n0_ := Aside0.mk (blk_below (g := gb354) (o := .cells #[.int .i64 t348, .int .i64 t349, .string t350] 33 (0, 0)) (by (with_reducible repeat (first | refine blk_drewN ?_ _ | refine blk_drew ?_ | refine blk_alloc ?_ _)); exact BK354.out) hb); have n1_ := Aside0.mk (blk_below (g := gb355) (o := .cells #[.int .i64 t351, .int .i64 t352, .string t353] 33 (0, 0)) (by (with_reducible repeat (first | refine blk_drewN ?_ _ | refine blk_drew ?_ | refine blk_alloc ?_ _)); exact BK355.out) hb); have n2_ := Aside0.mk (blk_below (g := gb360) (o := .cells #[.int .i64 t356, .int .i64 t357, .string t358] 33 (0, 0)) (by (with_reducible repeat (first | refine blk_drewN ?_ _ | refine blk_drew ?_ | refine blk_alloc ?_ _)); exact BK360.out) hb); have n3_ := Aside0.mk (blk_below (g := gb370) (o := .cells #[.int .i64 t366, .int .i64 t367, .string t368] 33 (0, 0)) (by (with_reducible repeat (first | refine blk_drewN ?_ _ | refine blk_drew ?_ | refine blk_alloc ?_ _)); exact BK370.out) hb); have n4_ := Aside0.mk (blk_below (g := gb375) (o := .cells #[.int .i64 t371, .int .i64 t372, .string t373] 33 (0, 0)) (by (with_reducible repeat (first | refine blk_drewN ?_ _ | refine blk_drew ?_ | refine blk_alloc ?_ _)); exact BK375.out) hb); have n5_ := Aside0.mk (below_step (by repeat (first | (with_reducible first | exact HB.out | apply below_alloc | apply pw_below_drewN | apply below_drew1 | refine below_set ?_ GE354.out | refine below_set ?_ GE355.out | refine below_set ?_ GE360.out | refine below_set ?_ GE370.out | refine below_set ?_ GE375.out) | exact HB.out)) hb); clear BK354; clear BK355; clear BK360; clear BK370; clear BK375; clear HB; have BK354 := n0_; have BK355 := n1_; have BK360 := n2_; have BK370 := n3_; have BK375 := n4_; have HB := n5_; clear n0_ n1_ n2_ n3_ n4_ n5_; (try clear hb); (try clear hb2); (try clear hk); (try clear hi)))
                      go_ret
                      exact ⟨by first | rfl | (simp [errW_none, errW_some] <;> rfl) | (simp [*, errW_none, errW_some] <;> rfl), by repeat (first | (with_reducible first | exact HB.out | apply below_alloc | apply pw_below_drewN | apply below_drew1 | refine below_set ?_ GE354.out | refine below_set ?_ GE355.out | refine below_set ?_ GE360.out | refine below_set ?_ GE370.out | refine below_set ?_ GE375.out) | exact HB.out)⟩
                    · rw [if_neg c389] at H
                      have c389b0 : (t372 == 0) = false := beq_eq_false_iff_ne.mpr c389
                      have c389b1 : (t372 != 0) = true := bne_iff_ne.mpr c389
                      exact absurd H (by simp)
                  · rw [if_neg c388] at H
                    have c388b0 : (a1 == (-1)) = false := beq_eq_false_iff_ne.mpr c388
                    have c388b1 : (a1 != (-1)) = true := bne_iff_ne.mpr c388
                    exact absurd H (by simp)
                · rw [if_neg c387] at H
                  have c387b0 : (t369 == 4) = false := beq_eq_false_iff_ne.mpr c387
                  have c387b1 : (t369 != 4) = true := bne_iff_ne.mpr c387
                  exact absurd H (by simp)


theorem cordonlaw01_ValueBack.calls (k : Nat) (a0 a1 : Int) (w : World) (h : cordonlaw01_ValueBack.f k a0 a1 = some true) :
    Calls Try.prog 7 #[.int .i64 a0, .int .i64 a1] w fun e w' => e = .returned (.bool true) ∧ Below w.heap.size w w' := by
  by_cases hl : a1 = (-9223372036854775808)
  · exact cordonlaw01_ValueBack.callsB k a0 a1 w hl h
  · exact cordonlaw01_ValueBack.callsA k a0 a1 w hl h
end Go.Proofs.Ythghflgmeepnlaa.Pa
