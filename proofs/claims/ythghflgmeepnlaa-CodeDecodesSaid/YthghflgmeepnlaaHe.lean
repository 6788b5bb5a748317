/- code.Decode: the row whose bytes a text is. -/
import Derived.Test.YthghflgmeepnlaaPaG9
namespace Go.Proofs.Ythghflgmeepnlaa.Pa
open Go.RowKit Go.Proofs.YthghflgmeepnlaaW.PrintWords Go.Proofs.YthghflgmeepnlaaW.PrintLast Go.Proofs.YthghflgmeepnlaaW.PrintMore
set_option linter.unusedVariables false
set_option linter.unusedSimpArgs false

def code_Decode.l0 : Nat → ByteArray → List S33 → Option (List S33 × Int)
  | 0, _, _ => none
  | k + 1, s, x => if 0 < (s.size : Int) then ((code_reader_value.f k s).bind fun b => (if b.2.2.2.1 = 0 then (if (x.length : Int) = 40 then some ([], 8) else (if x.length < 4398046511104 then code_Decode.l0 k b.2.2.2.2 (x ++ [(⟨b.1, b.2.1, b.2.2.1⟩ : S33)]) else none)) else some ([], b.2.2.2.1))) else some (x, 0)
def code_Decode.f (a0 : ByteArray) : Option (List S33 × Int) := code_Decode.l0 (2 * a0.size + 3000) a0 []

set_option maxHeartbeats 8000000 in
set_option maxRecDepth 100000 in
theorem decode_calls (k : Nat) (a0 : ByteArray) (r1 : List (S33)) (r2 : Int) (w : World) (h : code_Decode.l0 k a0 [] = some (r1, r2)) :
    Calls Try.prog 52 #[.string a0] w fun e w' => ∃ v0_ : Value, e = .returned (.tuple #[v0_, .int .i64 r2]) ∧ Kd.R k33 33 w' w.heap.size (fun _ => True) v0_ r1 ∧ Below w.heap.size w w' := by
  have hu33 := Try.underlying33
  have H' := Aside0.mk h
  clear h
  go_enter Try.func52, Try.ntmps52
  go_wp2_with (first | ((with_reducible refine gate_dst (N := 10) rfl ?_); refine box_event ?hg (N := 10) ?hd (cs := #[.string a0]) (t := 95) ?hr ?_; (case hd => rfl); (case hg => rfl); (case hr => first | (go_simp; done) | (go_simp; rfl)); intro g hg w1 hbox hb; have HI := Aside0.mk (⟨hbox, Nat.le_of_eq hg.symm⟩ : IsS95 w w1 g a0); have HB := Aside0.mk hb; clear hbox hb hg))
  go_loopg [5] k (fun kq v5 w' => ∃ (s : ByteArray) (x5 : List S33), Aside0 (code_Decode.l0 kq s x5 = some (r1, r2)) ∧ Aside0 (Kd.R k33 33 w' w.heap.size (fun k_ => k_ ≠ g) v5 x5) ∧ Aside0 (IsS95 w w' g s) ∧ Aside0 (Below w.heap.size w w'))
  case atStart => exact ⟨a0, [], H', ⟨Kd.R_nil _ _ _ _ _⟩, HI, HB⟩
  case round =>
    clear H' HI HB
    obtain ⟨s, x5, HA, HO, HI, HB⟩ := hrel
    cases gk with
    | zero => exact absurd HA.out (by simp [code_Decode.l0])
    | succ k1 =>
      have H := HA.out
      clear HA
      simp only [code_Decode.l0] at H
      have hcz : wr.cell? ⟨g, 0, none⟩ = some (.string s) := (blk_cell HI.out.1 0).trans rfl
      by_cases c2 : 0 < (s.size : Int)
      · rw [if_pos c2] at H
        have c2b : decide (0 < s.size) = true := decide_eq_true (by omega)
        replace H := Option.bind_eq_some_iff.mp H
        obtain ⟨⟨t1, t2, t3, t4, t5⟩, A30, H⟩ := H
        have A3 := Aside0.mk A30
        clear A30
        obtain ⟨Ao, co, eo⟩ := Kd.R_slice HO.out
        subst eo
        go_wp2_with fail
        refine (code_reader_value.calls k1 g s t1 t2 t3 t4 t5 w _ HI.out HB.out A3.out).mono ?_
        rintro e w2 ⟨rfl, hi, hb, hk⟩
        have HO2 := Aside0.mk (Kd.R_keep HO.out hk (fun _ h_ => h_))
        have HI2 := Aside0.mk hi
        have HB2 := Aside0.mk hb
        clear hi hb hk HO HI HB hcz
        try dsimp only at H
        by_cases c4 : t4 = 0
        · rw [if_pos c4] at H
          subst c4
          by_cases c5 : (x5.length : Int) = 40
          · rw [if_pos c5] at H
            simp only [Option.some.injEq, Prod.mk.injEq] at H
            obtain ⟨rfl, rfl⟩ := H
            have c5b : ((x5.length : Int) == 40) = true := beq_iff_eq.mpr c5
            have c5c : x5.length = 40 := by omega
            go_wp2_with fail
            go_ret2
            exact ⟨_, rfl, Kd.R_nil _ _ _ _ _, by repeat (first | exact HB2.out | apply below_alloc)⟩
          · rw [if_neg c5] at H
            have c5b : ((x5.length : Int) == 40) = false := beq_eq_false_iff_ne.mpr c5
            have c5c : ¬ x5.length = 40 := by omega
            by_cases c10 : x5.length < 4398046511104
            · rw [if_pos c10] at H
              have LM := Aside0.mk c10
              have H' := Aside0.mk H
              clear H
              go_wp2_with ((with_reducible refine gate_builtin (b := .append) (xs := #[.tmp 28, .tmp 30]) rfl ?_); at_builtin; refine Kd.R_append k33 (w0 := w) w.heap.size rfl (.tmp 28) (.tmp 30) 22 33 (.agg #[(.int .i64 0), (.int .i64 0), (.string ⟨#[]⟩)]) 32 rfl Try.underlying22 info33 rfl (by decide) (by omega) (.slice Ao x5.length co) x5 (⟨t1, t2, t3⟩ : S33) [.int .i64 t1, .int .i64 t2, .string t3] (fun k_ => k_ ≠ g) (fun _ => False) rfl (by first | (go_simp; done) | (go_simp; rfl)) ?aP (fun _ hk => hk.elim) ?aF ?aO ?aB ?aS ?aL ?_; (case aP => exact k33_mkM _ _ _ (⟨t1, t2, t3⟩ : S33)); (case aB => exact (by repeat (first | exact HB2.out | apply below_alloc))); (case aF => exact (fun k_ hk => IsS95.fresh (by repeat (first | exact HI2.out | apply IsS95.alloc)) k_ hk)); (case aO => exact (by repeat (first | exact HO2.out | apply Kd.R_alloc))); (case aS => exact (below_size (by repeat (first | exact HB2.out | apply below_alloc)))); (case aL => have := LM.out; omega); intro v9 w9 ho hb hg hat; have HI9 := Aside0.mk (IsS95.grown (by repeat (first | exact HI2.out | apply IsS95.alloc)) hg (Kd.R_away HO2.out (fun _ hk => hk))); have HO9 := Aside0.mk ho; have HB9 := Aside0.mk hb; clear ho hb hg hat HO2 HI2 HB2)
              go_roundg k1
              case measure => omega
              case rel => exact ⟨t5, x5 ++ [⟨t1, t2, t3⟩], H', ⟨Kd.R_mono HO9.out (fun _ hk => hk)⟩, HI9, HB9⟩
            · rw [if_neg c10] at H
              exact absurd H (by simp)
        · rw [if_neg c4] at H
          have c4b : (t4 != 0) = true := bne_iff_ne.mpr c4
          simp only [Option.some.injEq, Prod.mk.injEq] at H
          obtain ⟨rfl, rfl⟩ := H
          go_wp2_with fail
          go_ret2
          exact ⟨_, rfl, Kd.R_nil _ _ _ _ _, by repeat (first | exact HB2.out | apply below_alloc)⟩
      · rw [if_neg c2] at H
        have c2b : decide (0 < s.size) = false := decide_eq_false (by omega)
        simp only [Option.some.injEq, Prod.mk.injEq] at H
        obtain ⟨rfl, rfl⟩ := H
        go_wp2_with fail
        go_ret2
        exact ⟨_, rfl, Kd.R_mono HO.out (fun _ _ => trivial), HB.out⟩
theorem code_Decode.calls (a0 : ByteArray) (r1 : List (S33)) (r2 : Int) (w : World) (h : code_Decode.f a0 = some (r1, r2)) :
    Calls Try.prog 52 #[.string a0] w fun e w' => ∃ v0_ : Value, e = .returned (.tuple #[v0_, .int .i64 r2]) ∧ Kd.R k33 33 w' w.heap.size (fun _ => True) v0_ r1 ∧ Below w.heap.size w w' := decode_calls _ a0 r1 r2 w h
end Go.Proofs.Ythghflgmeepnlaa.Pa
