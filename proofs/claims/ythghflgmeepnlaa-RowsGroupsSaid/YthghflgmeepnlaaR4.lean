/- cordonref02.Same, in plain terms. cordonlaw11's examples: what they come to. Rows in plain terms: each once, with and without another list's; which lists are gone through. cordonlaw11.RowsSets answers true. -/
import Derived.Test.YthghflgmeepnlaaPaG4b
import Derived.Test.YthghflgmeepnlaaQe
import Derived.Test.YthghflgmeepnlaaR2
import Derived.Test.YthghflgmeepnlaaR3
import Derived.Test.YthghflgmeepnlaaPaG11
import Derived.Test.YthghflgmeepnlaaR1
import Derived.Test.YthghflgmeepnlaaPaG12b
namespace Go.Proofs.Ythghflgmeepnlaa.Pure
open Go.RowKit Go.Proofs.Ythghflgmeepnlaa.Pa Go.Proofs.YthghflgmeepnlaaW.PrintWords Go.Proofs.YthghflgmeepnlaaW.PrintLast
set_option linter.unusedVariables false
set_option linter.unusedSimpArgs false

theorem wrap_next (i : Nat) (h : i ≤ 100000) : wrap64 ((i : Int) + 1) = ((i + 1 : Nat) : Int) := by unfold wrap64; omega

theorem rd_mem (l : List S33) (i : Nat) (h : i < l.length) : rd_T33 l i ∈ l := by
  have e : rd_T33 l i = l[i] := by simp [rd_T33, List.getD, h]
  rw [e]; exact List.getElem_mem h

theorem same_l0 (l0 l1 : List S33) (hl : l0.length ≤ 60) (he : l0.length = l1.length) (d : Nat) : ∀ (k i : Nat), i + d = l0.length →
    cordonref02_Same.l0 (k + d + 1) l0 l1 (i : Int) = some (decide (ordL (l0.drop i) (l1.drop i) = 0)) := by
  induction d with
  | zero =>
    intro k i hd
    rw [show k + 0 + 1 = k + 1 from rfl, cordonref02_Same.l0, if_neg (by omega), ordL_end l0 l1 i (by omega) (by omega)]
    rfl
  | succ d ih =>
    intro k i hd
    rw [show k + (d + 1) + 1 = (k + d + 1) + 1 from by omega, cordonref02_Same.l0, if_pos (by omega), if_pos (by omega), if_pos (by omega), ordL_step l0 l1 i (by omega) (by omega), wrap_next i (by omega), ih k (i + 1) (by omega)]
    have z := lin_val.zero (rd_T33 l0 i) (rd_T33 l1 i)
    unfold sameV at z
    by_cases h : ordS (rd_T33 l0 i) (rd_T33 l1 i) = 0
    · obtain ⟨h1, h2, h3⟩ := z.1 h
      rw [if_neg (by simp [h1, h2, h3]), if_pos h]
    · rw [if_pos, if_neg h]
      · simp [h]
      · have h9 : ¬ ((rd_T33 l0 i).f0 = (rd_T33 l1 i).f0 ∧ (rd_T33 l0 i).f1 = (rd_T33 l1 i).f1 ∧ (rd_T33 l0 i).f2.toList = (rd_T33 l1 i).f2.toList) := fun q => h (z.2 q)
        simp only [Bool.or_eq_true, Bool.not_eq_true', beq_eq_false_iff_ne, ne_eq]
        by_cases g1 : (rd_T33 l0 i).f0 = (rd_T33 l1 i).f0
        · by_cases g2 : (rd_T33 l0 i).f1 = (rd_T33 l1 i).f1
          · exact .inr (.inr fun g3 => h9 ⟨g1, g2, g3⟩)
          · exact .inr (.inl g2)
        · exact .inl g1

theorem ordL_len : ∀ a b : List S33, ordL a b = 0 → a.length = b.length
  | [], [], _ => rfl
  | [], _ :: _, h => by simp [ordL] at h
  | _ :: _, [], h => by simp [ordL] at h
  | x :: a, y :: b, h => by
    unfold ordL at h
    by_cases g : ordS x y = 0
    · rw [if_pos g] at h
      simp [ordL_len a b h]
    · rw [if_neg g] at h; exact absurd h g
theorem same_is (l0 l1 : List S33) (hl : l0.length ≤ 60) (k : Nat) : cordonref02_Same.f (k + 61) l0 l1 = some (decide (ordL l0 l1 = 0)) := by
  unfold cordonref02_Same.f
  by_cases h : l0.length = l1.length
  · have := same_l0 l0 l1 hl h l0.length (k + (60 - l0.length)) 0 (by omega)
    rw [show k + (60 - l0.length) + l0.length + 1 = k + 61 from by omega, Int.natCast_zero] at this
    rw [if_pos (by omega), this]; rfl
  · rw [if_neg (by omega), decide_eq_false (fun q => h (ordL_len _ _ q))]
end Go.Proofs.Ythghflgmeepnlaa.Pure
namespace Go.Proofs.Ythghflgmeepnlaa.Pa
open Go.RowKit Go.Proofs.YthghflgmeepnlaaW.PrintWords Go.Proofs.YthghflgmeepnlaaW.PrintLast Go.Proofs.YthghflgmeepnlaaW.PrintMore
set_option linter.unusedVariables false
set_option linter.unusedSimpArgs false

theorem below_grown_none {W W1 : World} (h : W.grownBy W1 none) : Below W.heap.size W W1 := ⟨h.os, h.tape, h.output, h.size, fun k hk => h.block k hk (by simp)⟩
theorem V_lit {α : Type} (d : Kd α) (e : Nat) {W : World} {xs : List α} {inner : List Value} (hrep : Reps (Kd.FK d W (fun _ => True)) d.sz xs inner) (hm : xs.length ≤ 9223372036854775807) :
    Kd.V d e (W.alloc (.cells inner.toArray e)) 0 (fun _ => True) (.slice (some ⟨W.heap.size, 0, none⟩) xs.length xs.length) xs := by
  have hR : (Kd.raw d.sz).R e (W.alloc (.cells inner.toArray e)) 0 (fun k => k = W.heap.size) (.slice (some ⟨W.heap.size, 0, none⟩) xs.length xs.length) (Kd.chunks d.sz xs.length inner) := by
    refine ⟨fun k hk => ?_, inner, ?_, ?_⟩
    · have : W.heap.size = k := by simpa [Value.ownBlock] using hk
      exact this.symm
    · have h2 := World.ownsRow_lit (base := 0) (e := e) (size := d.sz) W inner.toArray xs.length (Nat.zero_le _) (by simpa [maxLen] using hm) (by simpa using hrep.1)
      rw [Kd.chunks_length]
      have h3 : (W.alloc (Obj.cells inner.toArray e)).ownsRow 0 e d.sz (Value.slice (some { block := W.heap.size, off := 0 }) xs.length xs.length) xs.length inner := by simpa using h2
      exact h3
    · exact Kd.reps_raw hrep (fun y c hk => ⟨d.K_len (Kd.FK_now hk), d.K_one (Kd.FK_now hk)⟩)
  exact Kd.N_V (Kd.N_made hR (World.grownBy_alloc W _ none) ⟨W.heap.size, by simp [Value.ownBlock], Nat.le_refl _⟩ (Kd.chunks_length _ _ _) (fun j y c hy hc => by rw [Kd.chunks_get hc]; exact hrep.2 j y hy) (fun _ h => h) trivial)
def r1 : List S33 := [⟨2, 1, ⟨#[]⟩⟩]
def r2 : List S33 := [⟨2, 2, ⟨#[]⟩⟩]
def r0 : List S33 := [⟨0, 0, ⟨#[]⟩⟩]
theorem one1 : cordonlaw11_one.f 1 = some r1 := by rfl
theorem one2 : cordonlaw11_one.f 2 = some r2 := by rfl
theorem ex_dist : distinctL [r1, r2, r1] = [r1, r2] := by kernel_rfl
theorem ex_sort : insS (fun i j => ordD (keyL [r2, r1, r0] i) (keyL [r2, r1, r0] j) []) 0 3 (List.range 3) = [2, 1, 0] := by decide +kernel
theorem ex_group : (groupsL [r2, r1, r0]).length = 3 := by decide +kernel
theorem ex_same1 : cordonref11_Same.f 100 [r1, r2] [r1, r2] = some true := by decide +kernel
theorem ex_same2 : cordonref11_Same.f 100 [r0, r1, r2] [r0, r1, r2] = some true := by decide +kernel

theorem sort_small (n : Nat) (hn : n < 20) (cf : Nat → Nat → Int) (fk : Nat) (caps : Array Value) (g : Nat) (W : World) (hc : CmpOk fk caps cf n g W) (hh : HoldI W g (List.range n)) :
    Calls Try.prog 94 #[.slice (some ⟨g, 0, none⟩) n n, .func (.func fk) #[] caps] W fun e w' => e = .returned (.tuple #[]) ∧ W.grownBy w' (some g) ∧ HoldI w' g (insS cf 0 n (List.range n)) := by
  have h := sortfunc_small hc n (List.range n) hh (by simpa using hn) (fun x hx => List.mem_range.1 hx)
  rw [List.length_range] at h
  exact h

set_option maxHeartbeats 8000000 in
set_option maxRecDepth 1000000 in
theorem alive_calls (w : World) : Calls Try.prog 55 #[] w fun e w' => e = .returned (.bool true) ∧ Below w.heap.size w w' := by
  have HB := Aside0.mk (Below.refl w.heap.size w)
  have hu33 := Try.underlying33
  go_enter Try.func55, Try.ntmps55
  go_wp2_with fail
  refine (cordonlaw11_one.calls 2 r2 _ one2).mono ?_
  rintro e wa ⟨va, rfl, ho, hb⟩
  replace HB := Aside0.mk (below_step HB.out hb)
  clear hb
  have a := Aside0.mk (Kd.R_V (base' := 0) ho)
  clear ho
  obtain ⟨Aa, ca, ea, _, _⟩ := a.out
  subst ea
  go_wp2_with fail
  refine (cordonlaw11_one.calls 1 r1 _ one1).mono ?_
  rintro e wb ⟨vb, rfl, ho, hb⟩
  replace a := Aside0.mk (Kd.V_below a.out hb)
  replace HB := Aside0.mk (below_step HB.out hb)
  clear hb
  have b := Aside0.mk (Kd.R_V (base' := 0) ho)
  clear ho
  obtain ⟨Ab, cb, eb, _, _⟩ := b.out
  subst eb
  go_wp2_with (first
    | ((with_reducible refine gate_dst (N := 5) rfl ?_); refine Kd.N_lit k33 0 33 ?hg (N' := 5) ?hd (xs := r0) (inner := [.int .i64 0, .int .i64 0, .string ⟨#[]⟩]) (ok := fun _ => True) (okp := fun _ => True) ?hr ?hp (fun _ h => h) trivial (Below.refl _ _) (Nat.zero_le _) (by simp [r0]) ?_; (case hd => rfl); (case hg => rfl); (case hr => first | (go_simp; done) | (go_simp; rfl)); (case hp => exact Reps.c3 (Kd.FK_of_M (base := 0) (k33_mkM _ _ _ (⟨0, 0, ⟨#[]⟩⟩ : S33))) (Reps.none _ _)); intro vz wz ho hb_ hg_ hnew_; have hb : Below _ _ wz := below_grown_none hg_; replace a := Aside0.mk (Kd.V_below a.out hb); replace b := Aside0.mk (Kd.V_below b.out hb); replace HB := Aside0.mk (below_step HB.out hb); have z := Aside0.mk (Kd.N_V (base' := 0) ho); (obtain ⟨Az, cz, ez, _, _⟩ := z.out); subst ez; clear ho hb hb_ hg_ hnew_)
    | ((with_reducible refine gate_dst (N := 6) rfl ?_); refine Kd.N_lit (Kd.slice 33 k33) 0 22 ?hg (N' := 6) ?hd (xs := ([r2, r1, r0] : List (List S33))) (inner := [.slice Aa r2.length ca, .slice Ab r1.length cb, .slice Az r0.length cz]) (ok := fun _ => True) (okp := fun _ => True) ?hr ?hp (fun _ h => h) trivial (Below.refl _ _) (Nat.zero_le _) (by simp) ?_; (case hd => rfl); (case hg => rfl); (case hr => first | (go_simp; done) | (go_simp; rfl)); (case hp => exact (Reps.one (show Kd.FK (Kd.slice 33 k33) _ (fun _ => True) r2 [.slice Aa r2.length ca] from Kd.FK_slice_mk (Kd.V_reads' a.out).2.1 (Kd.V_F a.out)) (Reps.one (show Kd.FK (Kd.slice 33 k33) _ (fun _ => True) r1 [.slice Ab r1.length cb] from Kd.FK_slice_mk (Kd.V_reads' b.out).2.1 (Kd.V_F b.out)) (Reps.one (show Kd.FK (Kd.slice 33 k33) _ (fun _ => True) r0 [.slice Az r0.length cz] from Kd.FK_slice_mk (Kd.V_reads' z.out).2.1 (Kd.V_F z.out)) (Reps.none _ _))))); intro vL wL ho hb_ hg_ hnew_; have hb : Below _ _ wL := below_grown_none hg_; replace a := Aside0.mk (Kd.V_below a.out hb); replace b := Aside0.mk (Kd.V_below b.out hb); replace z := Aside0.mk (Kd.V_below z.out hb); replace HB := Aside0.mk (below_step HB.out hb); have L := Aside0.mk (Kd.N_V (base' := 0) ho); (obtain ⟨AL, cL, eL, _, _⟩ := L.out); subst eL; clear ho hb hb_ hg_ hnew_))
  clear a b z
  refine (cordonlaw11_one.calls 1 r1 _ one1).mono ?_
  rintro e wa ⟨va, rfl, ho, hb⟩
  replace L := Aside0.mk (Kd.V_below L.out hb)
  replace HB := Aside0.mk (below_step HB.out hb)
  clear hb
  have a := Aside0.mk (Kd.R_V (base' := 0) ho)
  clear ho
  obtain ⟨Aa, ca, ea, _, _⟩ := a.out
  subst ea
  go_wp2_with fail
  refine (cordonlaw11_one.calls 2 r2 _ one2).mono ?_
  rintro e wb ⟨vb, rfl, ho, hb⟩
  replace L := Aside0.mk (Kd.V_below L.out hb)
  replace a := Aside0.mk (Kd.V_below a.out hb)
  replace HB := Aside0.mk (below_step HB.out hb)
  clear hb
  have b := Aside0.mk (Kd.R_V (base' := 0) ho)
  clear ho
  obtain ⟨Ab, cb, eb, _, _⟩ := b.out
  subst eb
  go_wp2_with fail
  refine (cordonlaw11_one.calls 1 r1 _ one1).mono ?_
  rintro e wd ⟨vd, rfl, ho, hb⟩
  replace L := Aside0.mk (Kd.V_below L.out hb)
  replace a := Aside0.mk (Kd.V_below a.out hb)
  replace b := Aside0.mk (Kd.V_below b.out hb)
  replace HB := Aside0.mk (below_step HB.out hb)
  clear hb
  have d := Aside0.mk (Kd.R_V (base' := 0) ho)
  clear ho
  obtain ⟨Ad, cd, ed, _, _⟩ := d.out
  subst ed
  go_wp2_with (first
    | ((with_reducible refine gate_dst (N := 10) rfl ?_); refine Kd.N_lit (Kd.slice 33 k33) 0 22 ?hg (N' := 10) ?hd (xs := ([r1, r2, r1] : List (List S33))) (inner := [.slice Aa r1.length ca, .slice Ab r2.length cb, .slice Ad r1.length cd]) (ok := fun _ => True) (okp := fun _ => True) ?hr ?hp (fun _ h => h) trivial (Below.refl _ _) (Nat.zero_le _) (by simp) ?_; (case hd => rfl); (case hg => rfl); (case hr => first | (go_simp; done) | (go_simp; rfl)); (case hp => exact (Reps.one (show Kd.FK (Kd.slice 33 k33) _ (fun _ => True) r1 [.slice Aa r1.length ca] from Kd.FK_slice_mk (Kd.V_reads' a.out).2.1 (Kd.V_F a.out)) (Reps.one (show Kd.FK (Kd.slice 33 k33) _ (fun _ => True) r2 [.slice Ab r2.length cb] from Kd.FK_slice_mk (Kd.V_reads' b.out).2.1 (Kd.V_F b.out)) (Reps.one (show Kd.FK (Kd.slice 33 k33) _ (fun _ => True) r1 [.slice Ad r1.length cd] from Kd.FK_slice_mk (Kd.V_reads' d.out).2.1 (Kd.V_F d.out)) (Reps.none _ _))))); intro vP wP ho hb_ hg_ hnew_; have hb : Below _ _ wP := below_grown_none hg_; replace L := Aside0.mk (Kd.V_below L.out hb); replace a := Aside0.mk (Kd.V_below a.out hb); replace b := Aside0.mk (Kd.V_below b.out hb); replace d := Aside0.mk (Kd.V_below d.out hb); replace HB := Aside0.mk (below_step HB.out hb); have P := Aside0.mk (Kd.N_V (base' := 0) ho); (obtain ⟨AP, cP, eP, _, _⟩ := P.out); subst eP; clear ho hb hb_ hg_ hnew_))
  clear a b d
  refine (rows_Distinct_calls (fun _ => True) AP cP [r1, r2, r1] wP P.out (by simp) (by simp [r1, r2]) (fun r hr => by simp only [List.mem_cons, List.not_mem_nil, or_false] at hr; rcases hr with rfl | rfl | rfl <;> exact (by decide +kernel))).mono ?_
  rintro e wD ⟨vD, rfl, ho, hb⟩
  rw [ex_dist] at ho
  clear P
  replace L := Aside0.mk (Kd.V_below L.out hb)
  replace HB := Aside0.mk (below_step HB.out hb)
  clear hb
  have D := Aside0.mk (Kd.V_mono (ok' := fun _ => True) (Kd.N_V (base' := 0) ho) (fun _ _ => trivial))
  clear ho
  obtain ⟨AD, cD, eD, _, _⟩ := D.out
  subst eD
  go_wp2_with fail
  refine (cordonlaw11_one.calls 1 r1 _ one1).mono ?_
  rintro e wa ⟨va, rfl, ho, hb⟩
  replace L := Aside0.mk (Kd.V_below L.out hb)
  replace D := Aside0.mk (Kd.V_below D.out hb)
  replace HB := Aside0.mk (below_step HB.out hb)
  clear hb
  have a := Aside0.mk (Kd.R_V (base' := 0) ho)
  clear ho
  obtain ⟨Aa, ca, ea, _, _⟩ := a.out
  subst ea
  go_wp2_with fail
  refine (cordonlaw11_one.calls 2 r2 _ one2).mono ?_
  rintro e wb ⟨vb, rfl, ho, hb⟩
  replace L := Aside0.mk (Kd.V_below L.out hb)
  replace D := Aside0.mk (Kd.V_below D.out hb)
  replace a := Aside0.mk (Kd.V_below a.out hb)
  replace HB := Aside0.mk (below_step HB.out hb)
  clear hb
  have b := Aside0.mk (Kd.R_V (base' := 0) ho)
  clear ho
  obtain ⟨Ab, cb, eb, _, _⟩ := b.out
  subst eb
  go_wp2_with fail
  have Q := Aside0.mk (V_lit (Kd.slice 33 k33) 22 (W := wb) (xs := [r1, r2]) (inner := [.slice Aa r1.length ca, .slice Ab r2.length cb]) (Reps.one (show Kd.FK (Kd.slice 33 k33) _ (fun _ => True) r1 [.slice Aa r1.length ca] from Kd.FK_slice_mk (Kd.V_reads' a.out).2.1 (Kd.V_F a.out)) (Reps.one (show Kd.FK (Kd.slice 33 k33) _ (fun _ => True) r2 [.slice Ab r2.length cb] from Kd.FK_slice_mk (Kd.V_reads' b.out).2.1 (Kd.V_F b.out)) (Reps.none _ _))) (by simp))
  have D2 := Aside0.mk (Kd.V_alloc D.out (.cells [.slice Aa r1.length ca, .slice Ab r2.length cb].toArray 22))
  refine (cordonref11_Same.calls 100 AD cD [r1, r2] _ _ [r1, r2] true _ (Kd.V_reads' D2.out).2.2 (Kd.V_reads' D2.out).2.1 (Kd.V_reads' Q.out).2.2 (Kd.V_reads' Q.out).2.1 ex_same1).mono ?_
  rintro e w7 ⟨rfl, nd, rfl⟩
  have hb := pw_below_drewN (below_alloc (Below.refl wb.heap.size wb) (.cells [.slice Aa r1.length ca, .slice Ab r2.length cb].toArray 22)) nd
  clear Q D2
  clear D a b
  replace L := Aside0.mk (Kd.V_below L.out hb)
  replace HB := Aside0.mk (below_step HB.out hb)
  clear hb
  generalize ((wb.alloc (.cells [.slice Aa r1.length ca, .slice Ab r2.length cb].toArray 22)).drewN nd) = W1 at L HB ⊢
  go_wp2_with fail
  refine (Sort_calls (fun _ => True) (fun _ => True) (fun _ => True) AL cL [r2, r1, r0] AL cL [r2, r1, r0] none 0 [] W1 L.out L.out (Kd.V_nil _ _ _ _ _) (by simp) (by simp [r0, r1, r2]) (by simp) [2, 1, 0] rfl (by simp) (fun fk caps g W hc hh => by have h := sort_small 3 (by omega) _ fk caps g W hc hh; rw [ex_sort] at h; exact h)).mono ?_
  rintro e wS ⟨vS, rfl, ho, hb⟩
  replace ho : Kd.N (Kd.slice 33 k33) 22 wS W1.heap.size (fun k_ => True ∨ W1.heap.size ≤ k_) vS [r0, r1, r2] := ho
  replace L := Aside0.mk (Kd.V_below L.out hb)
  replace HB := Aside0.mk (below_step HB.out hb)
  clear hb
  have D := Aside0.mk (Kd.V_mono (ok' := fun _ => True) (Kd.N_V (base' := 0) ho) (fun _ _ => trivial))
  clear ho
  obtain ⟨AD, cD, eD, _, _⟩ := D.out
  subst eD
  go_wp2_with fail
  have z := Aside0.mk (V_lit k33 33 (W := wS) (xs := r0) (inner := [.int .i64 0, .int .i64 0, .string ⟨#[]⟩]) (Reps.c3 (Kd.FK_of_M (base := 0) (k33_mkM _ _ _ (⟨0, 0, ⟨#[]⟩⟩ : S33))) (Reps.none _ _)) (by simp [r0]))
  have hb := below_alloc (Below.refl wS.heap.size wS) (.cells #[Value.int .i64 0, Value.int .i64 0, Value.string { data := #[] }] 33)
  replace L := Aside0.mk (Kd.V_below L.out hb)
  replace D := Aside0.mk (Kd.V_below D.out hb)
  replace HB := Aside0.mk (below_step HB.out hb)
  clear hb
  generalize hgz : wS.heap.size = gz at z ⊢
  change Aside0 (Kd.V k33 33 (wS.alloc (Obj.cells #[Value.int IntKind.i64 0, Value.int IntKind.i64 0, Value.string { data := #[] }] 33)) 0 (fun _ => True) (.slice (some ⟨gz, 0, none⟩) r0.length r0.length) r0) at z
  generalize (wS.alloc (Obj.cells #[Value.int IntKind.i64 0, Value.int IntKind.i64 0, Value.string { data := #[] }] 33)) = W2 at z D L HB ⊢
  clear hgz
  obtain ⟨Az, hAz⟩ : ∃ A : Option Addr, A = some ⟨gz, 0, none⟩ := ⟨_, rfl⟩
  obtain ⟨cz, hcz⟩ : ∃ c : Nat, c = r0.length := ⟨_, rfl⟩
  rw [← hAz] at z
  replace z : Aside0 (Kd.V k33 33 W2 0 (fun _ => True) (.slice Az r0.length cz) r0) := by rw [hcz]; exact z
  refine (cordonlaw11_one.calls 1 r1 _ one1).mono ?_
  rintro e wa ⟨va, rfl, ho, hb⟩
  replace L := Aside0.mk (Kd.V_below L.out hb)
  replace D := Aside0.mk (Kd.V_below D.out hb)
  replace z := Aside0.mk (Kd.V_below z.out hb)
  replace HB := Aside0.mk (below_step HB.out hb)
  clear hb
  have a := Aside0.mk (Kd.R_V (base' := 0) ho)
  clear ho
  obtain ⟨Aa, ca, ea, _, _⟩ := a.out
  subst ea
  go_wp2_with fail
  refine (cordonlaw11_one.calls 2 r2 _ one2).mono ?_
  rintro e wb ⟨vb, rfl, ho, hb⟩
  replace L := Aside0.mk (Kd.V_below L.out hb)
  replace D := Aside0.mk (Kd.V_below D.out hb)
  replace z := Aside0.mk (Kd.V_below z.out hb)
  replace a := Aside0.mk (Kd.V_below a.out hb)
  replace HB := Aside0.mk (below_step HB.out hb)
  clear hb
  have b := Aside0.mk (Kd.R_V (base' := 0) ho)
  clear ho
  obtain ⟨Ab, cb, eb, _, _⟩ := b.out
  subst eb
  subst hAz
  subst hcz
  go_wp2_with fail
  have Q := Aside0.mk (V_lit (Kd.slice 33 k33) 22 (W := wb) (xs := [r0, r1, r2]) (inner := [.slice (some ⟨gz, 0, none⟩) r0.length r0.length, .slice Aa r1.length ca, .slice Ab r2.length cb]) (Reps.one (show Kd.FK (Kd.slice 33 k33) _ (fun _ => True) r0 [.slice (some ⟨gz, 0, none⟩) r0.length r0.length] from Kd.FK_slice_mk (Kd.V_reads' z.out).2.1 (Kd.V_F z.out)) (Reps.one (show Kd.FK (Kd.slice 33 k33) _ (fun _ => True) r1 [.slice Aa r1.length ca] from Kd.FK_slice_mk (Kd.V_reads' a.out).2.1 (Kd.V_F a.out)) (Reps.one (show Kd.FK (Kd.slice 33 k33) _ (fun _ => True) r2 [.slice Ab r2.length cb] from Kd.FK_slice_mk (Kd.V_reads' b.out).2.1 (Kd.V_F b.out)) (Reps.none _ _)))) (by simp))
  have D2 := Aside0.mk (Kd.V_alloc D.out (.cells [.slice (some ⟨gz, 0, none⟩) r0.length r0.length, .slice Aa r1.length ca, .slice Ab r2.length cb].toArray 22))
  refine (cordonref11_Same.calls 100 AD cD [r0, r1, r2] _ _ [r0, r1, r2] true _ (Kd.V_reads' D2.out).2.2 (Kd.V_reads' D2.out).2.1 (Kd.V_reads' Q.out).2.2 (Kd.V_reads' Q.out).2.1 ex_same2).mono ?_
  rintro e w7 ⟨rfl, nd, rfl⟩
  have hb := pw_below_drewN (below_alloc (Below.refl wb.heap.size wb) (.cells [.slice (some ⟨gz, 0, none⟩) r0.length r0.length, .slice Aa r1.length ca, .slice Ab r2.length cb].toArray 22)) nd
  clear Q D2
  clear D a b z
  replace L := Aside0.mk (Kd.V_below L.out hb)
  replace HB := Aside0.mk (below_step HB.out hb)
  clear hb
  generalize ((wb.alloc (.cells [.slice (some ⟨gz, 0, none⟩) r0.length r0.length, .slice Aa r1.length ca, .slice Ab r2.length cb].toArray 22)).drewN nd) = W3 at L HB ⊢
  go_wp2_with fail
  refine (Groups_calls (fun _ => True) AL cL [r2, r1, r0] W3 L.out (by simp) (by simp [r0, r1, r2]) (fun r hr => by simp only [List.mem_cons, List.not_mem_nil, or_false] at hr; rcases hr with rfl | rfl | rfl <;> exact (by decide +kernel))).mono ?_
  rintro e wG ⟨vG, rfl, ho, hb⟩
  replace HB := Aside0.mk (below_step HB.out hb)
  obtain ⟨AG, cG, eG⟩ := Kd.S_slice ho
  rw [ex_group] at eG
  subst eG
  clear hb ho L
  go_wp2
  go_ret
  exact ⟨rfl, HB.out⟩
end Go.Proofs.Ythghflgmeepnlaa.Pa
namespace Go.Proofs.Ythghflgmeepnlaa.Pa
open Go.RowKit Go.Proofs.YthghflgmeepnlaaW.PrintWords Go.Proofs.YthghflgmeepnlaaW.PrintLast Go.Proofs.YthghflgmeepnlaaW.PrintMore
set_option linter.unusedVariables false
set_option linter.unusedSimpArgs false

/-- A row that is gone through. -/
def gR (r : List S33) : Prop := r.length ≤ 40 ∧ ∀ y ∈ r, rightV y = 0 ∧ -9223372036854775808 ≤ y.f1 ∧ y.f1 ≤ 9223372036854775807
/-- A row's key. -/
abbrev kb (r : List S33) : List UInt8 := ky (bytesOfRow r)
theorem errR_all0 : ∀ {l : List S33}, (∀ y ∈ l, rightV y = 0) → errR l = 0
  | [], _ => rfl
  | x :: l, h => by
    unfold errR
    rw [if_pos (h x (by simp))]
    exact errR_all0 (fun y hy => h y (by simp [hy]))
theorem kb_is {r : List S33} (h : gR r) : kb r = bytesR r := by
  unfold kb ky bytesOfRow encode
  rw [if_neg (by simp [errR_all0 (fun y hy => (h.2 y hy).1)]), if_neg (by have := h.1; omega)]
theorem kb_iff {r r' : List S33} (h : gR r) (h' : gR r') : kb r = kb r' ↔ ordL r r' = 0 := by
  rw [kb_is h, kb_is h', ← bytes_cmp r r' h.2 h'.2]
  exact (lin_bytes.zero _ _).symm
theorem max_ok {r : List S33} (h : gR r) : (bytesOfRow r).size ≤ maxLen := by
  have e : (bytesOfRow r).size = (kb r).length := by unfold kb ky; rw [Array.length_toList]; rfl
  have h1 := bytesR_length (l := r) (fun y hy => (h.2 y hy).1)
  have h2 := h.1
  rw [e, kb_is h]
  unfold maxLen
  omega
theorem same_key {r r' : List S33} (h : gR r) (h' : gR r') (k : Nat) : cordonref02_Same.f (k + 61) r r' = some (decide (kb r = kb r')) := by
  rw [Pure.same_is r r' (by have := h.1; omega)]
  congr 1
  rw [decide_eq_decide]
  exact (kb_iff h h').symm
theorem keysOf_drop {l : List (List S33)} {i : Nat} (h1 : i < l.length) : keysOf (l.drop i) = kb (rd_L4 l (i : Int)) :: keysOf (l.drop (i + 1)) := by
  have := drop_keys h1
  unfold keysOf at *
  rw [List.map_drop, this, List.map_drop]
theorem rd_in {l : List (List S33)} {i : Nat} (h1 : i < l.length) : rd_L4 l (i : Int) ∈ l := by
  unfold rd_L4
  rw [Int.toNat_natCast, List.getD_eq_getElem?_getD, List.getElem?_eq_getElem h1]
  exact List.getElem_mem h1
theorem drop_rdN {l : List (List S33)} {i : Nat} (h1 : i < l.length) : l.drop i = rd_L4 l (i : Int) :: l.drop (i + 1) := by
  have := drop_rdL (l := l) (i := (i : Int)) (by omega) (by omega)
  rwa [Int.toNat_natCast, show ((i : Int) + 1).toNat = i + 1 by omega] at this
theorem wrapN (i : Nat) (h : i < 1000000000) : wrap64 ((i : Int) + 1) = ((i + 1 : Nat) : Int) := by unfold wrap64; omega

/-! ### Are two lists of rows the same -/
theorem rsame_l0 (l : List (List S33)) (hg : ∀ r ∈ l, gR r) (hl : l.length < 1000000000) (d : Nat) : ∀ (k i : Nat), i + d = l.length → cordonref11_Same.l0 (k + d + 62) l l (i : Int) = some true := by
  induction d with
  | zero =>
    intro k i hd
    rw [show k + 0 + 62 = (k + 61) + 1 from rfl, cordonref11_Same.l0, if_neg (by omega)]
  | succ d ih =>
    intro k i hd
    rw [show k + (d + 1) + 62 = (k + d + 1 + 61) + 1 by omega, cordonref11_Same.l0, if_pos (by omega), if_pos (by omega), if_pos (by omega), same_key (hg _ (rd_in (by omega))) (hg _ (rd_in (by omega))), Option.bind_some]
    rw [if_pos (by simp), wrapN i (by omega), show k + d + 1 + 61 = k + d + 62 by omega]
    exact ih k (i + 1) (by omega)
theorem rsame_is (l : List (List S33)) (hg : ∀ r ∈ l, gR r) (hl : l.length < 1000000000) (k : Nat) : cordonref11_Same.f (k + l.length + 62) l l = some true := by
  unfold cordonref11_Same.f
  rw [if_pos rfl]
  exact rsame_l0 l hg hl l.length k 0 (by omega)

/-! ### Is a row one of some; each once; with, without -/
theorem in_l0 (l : List (List S33)) (r : List S33) (hg : ∀ r ∈ l, gR r) (hr : gR r) (hl : l.length < 1000000000) (d : Nat) : ∀ (k i : Nat), i + d = l.length → cordonref11_In.l0 (k + d + 62) l r (i : Int) = some (decide (kb r ∈ keysOf (l.drop i))) := by
  induction d with
  | zero =>
    intro k i hd
    rw [show k + 0 + 62 = (k + 61) + 1 from rfl, cordonref11_In.l0, if_neg (by omega), List.drop_eq_nil_of_le (by omega)]
    rfl
  | succ d ih =>
    intro k i hd
    rw [show k + (d + 1) + 62 = (k + d + 1 + 61) + 1 by omega, cordonref11_In.l0, if_pos (by omega), if_pos (by omega), same_key (hg _ (rd_in (by omega))) hr, Option.bind_some, keysOf_drop (by omega)]
    by_cases h : kb (rd_L4 l (i : Int)) = kb r
    · rw [if_pos (by simp [h]), h]
      simp
    · rw [if_neg (by simp [h]), wrapN i (by omega), show k + d + 1 + 61 = k + d + 62 by omega, ih k (i + 1) (by omega)]
      congr 1
      rw [decide_eq_decide]
      exact ⟨fun q => List.mem_cons_of_mem _ q, fun q => by
        rcases List.mem_cons.1 q with q | q
        · exact absurd q.symm h
        · exact q⟩
theorem in_is (l : List (List S33)) (r : List S33) (hg : ∀ r ∈ l, gR r) (hr : gR r) (hl : l.length < 1000000000) (k : Nat) : cordonref11_In.f (k + l.length + 62) l r = some (decide (kb r ∈ keysOf l)) := by
  unfold cordonref11_In.f
  exact in_l0 l r hg hr hl l.length k 0 (by omega)

theorem keepL_congr (may : ByteArray → Bool) : ∀ (l : List (List S33)) (s t : List (List UInt8)), (∀ x, x ∈ s ↔ x ∈ t) → keepL may s l = keepL may t l
  | [], s, t, h => rfl
  | r :: l, s, t, h => by
    unfold keepL
    have e : s.count (ky (bytesOfRow r)) = 0 ↔ t.count (ky (bytesOfRow r)) = 0 := by rw [List.count_eq_zero, List.count_eq_zero, h]
    have ih := keepL_congr may l (ky (bytesOfRow r) :: s) (ky (bytesOfRow r) :: t) (fun x => by simp [h x])
    by_cases c : s.count (ky (bytesOfRow r)) = 0 ∧ may (bytesOfRow r) = true
    · rw [if_pos c, if_pos ⟨e.1 c.1, c.2⟩, ih]
    · rw [if_neg c, if_neg (fun q => c ⟨e.2 q.1, q.2⟩), ih]
theorem keepL_filter (may : ByteArray → Bool) : ∀ (l : List (List S33)) (s : List (List UInt8)), keepL may s l = (keepL (fun _ => true) s l).filter (fun r => may (bytesOfRow r))
  | [], s => rfl
  | r :: l, s => by
    unfold keepL
    have ih := keepL_filter may l (ky (bytesOfRow r) :: s)
    by_cases c : s.count (ky (bytesOfRow r)) = 0
    · by_cases m : may (bytesOfRow r) = true
      · rw [if_pos ⟨c, m⟩, if_pos ⟨c, rfl⟩, List.filter_cons_of_pos (p := fun r => may (bytesOfRow r)) m, ih]
      · rw [if_neg (fun q => m q.2), if_pos ⟨c, rfl⟩, List.filter_cons_of_neg (p := fun r => may (bytesOfRow r)) m, ih]
    · rw [if_neg (fun q => c q.1), if_neg (fun q => c q.1), ih]
theorem keepL_sub (may : ByteArray → Bool) : ∀ (l : List (List S33)) (s : List (List UInt8)), ∀ r ∈ keepL may s l, r ∈ l
  | [], s, r, h => by simp [keepL] at h
  | x :: l, s, r, h => by
    unfold keepL at h
    split at h
    · rcases List.mem_cons.1 h with h | h
      · simp [h]
      · exact List.mem_cons_of_mem _ (keepL_sub may l _ r h)
    · exact List.mem_cons_of_mem _ (keepL_sub may l _ r h)
theorem keepL_len (may : ByteArray → Bool) : ∀ (l : List (List S33)) (s : List (List UInt8)), (keepL may s l).length ≤ l.length
  | [], s => by simp [keepL]
  | x :: l, s => by
    unfold keepL
    split
    · have := keepL_len may l (ky (bytesOfRow x) :: s); simp; omega
    · have := keepL_len may l (ky (bytesOfRow x) :: s); simp; omega

theorem dist_l0 (l : List (List S33)) (hg : ∀ r ∈ l, gR r) (hl : l.length < 1000000000) (d : Nat) : ∀ (k i : Nat) (out : List (List S33)), i + d = l.length → out.length ≤ i → (∀ r ∈ out, gR r) →
    cordonref11_Distinct.l0 (k + d + l.length + 63) l out (i : Int) = some (out ++ keepL (fun _ => true) (keysOf out) (l.drop i)) := by
  induction d with
  | zero =>
    intro k i out hd ho hgo
    rw [show k + 0 + l.length + 63 = (k + l.length + 62) + 1 by omega, cordonref11_Distinct.l0, if_neg (by omega), List.drop_eq_nil_of_le (by omega)]
    simp [keepL]
  | succ d ih =>
    intro k i out hd ho hgo
    have hx := hg _ (rd_in (l := l) (i := i) (by omega))
    rw [show k + (d + 1) + l.length + 63 = (k + d + l.length + 63) + 1 by omega, cordonref11_Distinct.l0, if_pos (by omega), if_pos (by omega), show k + d + l.length + 63 = (k + d + 1 + (l.length - out.length)) + out.length + 62 by omega, in_is out _ hgo hx (by omega), Option.bind_some,
      show (k + d + 1 + (l.length - out.length)) + out.length + 62 = k + d + l.length + 63 by omega, wrapN i (by omega), drop_rdN (l := l) (i := i) (by omega), keepL]
    by_cases h : kb (rd_L4 l (i : Int)) ∈ keysOf out
    · rw [if_pos (by simp [h]), ih k (i + 1) out (by omega) (by omega) hgo, if_neg (fun q => by have := List.count_eq_zero.1 q.1; exact this h)]
      congr 2
      exact keepL_congr _ _ _ _ (fun x => by
        constructor
        · exact fun hx => List.mem_cons_of_mem _ hx
        · intro hx; rcases List.mem_cons.1 hx with rfl | hx
          · exact h
          · exact hx)
    · rw [if_neg (by simp [h]), if_pos (by omega), ih k (i + 1) (out ++ [rd_L4 l (i : Int)]) (by omega) (by simp; omega) (fun r hr => by
          rcases List.mem_append.1 hr with hr | hr
          · exact hgo r hr
          · rw [List.mem_singleton.1 hr]; exact hx), if_pos ⟨List.count_eq_zero.2 h, rfl⟩, List.append_assoc]
      have e : keepL (fun _ => true) (keysOf (out ++ [rd_L4 l (i : Int)])) (l.drop (i + 1)) = keepL (fun _ => true) (ky (bytesOfRow (rd_L4 l (i : Int))) :: keysOf out) (l.drop (i + 1)) :=
        keepL_congr _ _ _ _ (fun x => by unfold keysOf; simp [or_comm])
      rw [e]
      rfl
theorem dist_is (l : List (List S33)) (hg : ∀ r ∈ l, gR r) (hl : l.length < 1000000000) (k : Nat) : cordonref11_Distinct.f (k + l.length + l.length + 63) l = some (distinctL l) := by
  unfold cordonref11_Distinct.f
  have := dist_l0 l hg hl l.length k 0 [] (by omega) (by simp) (by simp)
  rw [List.drop_zero, List.nil_append, Int.natCast_zero] at this
  exact this

theorem part_l0 (b D : List (List S33)) (some_ : Bool) (hb : ∀ r ∈ b, gR r) (hD : ∀ r ∈ D, gR r) (hbl : b.length < 1000000000) (hl : D.length < 1000000000) (d : Nat) : ∀ (k i : Nat) (out : List (List S33)), i + d = D.length → out.length ≤ i →
    cordonref11_Part.l0 (k + d + b.length + 63) b some_ out D (i : Int) = some (out ++ (D.drop i).filter (fun r => decide (kb r ∈ keysOf b) == some_)) := by
  induction d with
  | zero =>
    intro k i out hd ho
    rw [show k + 0 + b.length + 63 = (k + b.length + 62) + 1 by omega, cordonref11_Part.l0, if_neg (by omega), List.drop_eq_nil_of_le (by omega)]
    simp
  | succ d ih =>
    intro k i out hd ho
    have hx := hD _ (rd_in (l := D) (i := i) (by omega))
    rw [show k + (d + 1) + b.length + 63 = (k + d + b.length + 63) + 1 by omega, cordonref11_Part.l0, if_pos (by omega), if_pos (by omega), show k + d + b.length + 63 = (k + d + 1) + b.length + 62 by omega, in_is b _ hb hx hbl, Option.bind_some,
      show (k + d + 1) + b.length + 62 = k + d + b.length + 63 by omega, wrapN i (by omega), drop_rdN (l := D) (i := i) (by omega)]
    by_cases h : (decide (kb (rd_L4 D (i : Int)) ∈ keysOf b) == some_) = true
    · rw [if_pos h, if_pos (by omega), ih k (i + 1) _ (by omega) (by simp; omega), List.filter_cons_of_pos (by exact h), List.append_assoc]
      rfl
    · rw [if_neg h, ih k (i + 1) out (by omega) (by omega), List.filter_cons_of_neg (by exact h)]
theorem part_is (a b : List (List S33)) (some_ : Bool) (ha : ∀ r ∈ a, gR r) (hb : ∀ r ∈ b, gR r) (hal : a.length < 1000000000) (hbl : b.length < 1000000000) (k : Nat) :
    cordonref11_Part.f (k + a.length + a.length + b.length + 63) a b some_ = some ((distinctL a).filter (fun r => decide (kb r ∈ keysOf b) == some_)) := by
  unfold cordonref11_Part.f
  rw [show k + a.length + a.length + b.length + 63 = (k + b.length) + a.length + a.length + 63 by omega, dist_is a ha hal, Option.bind_some]
  have h1 : (distinctL a).length ≤ a.length := keepL_len _ _ _
  have := part_l0 b (distinctL a) some_ hb (fun r hr => ha r (keepL_sub _ _ _ r hr)) hbl (by omega) (distinctL a).length (k + a.length + (a.length - (distinctL a).length)) 0 [] (by omega) (by simp)
  rw [show k + a.length + (a.length - (distinctL a).length) + (distinctL a).length + b.length + 63 = k + b.length + a.length + a.length + 63 by omega] at this
  simpa using this
theorem except_part (a b : List (List S33)) : keepL (fun s => decide ((keysOf b).count (ky s) = 0)) [] a = (distinctL a).filter (fun r => decide (kb r ∈ keysOf b) == false) := by
  rw [keepL_filter]
  unfold distinctL
  congr 1
  funext r
  by_cases h : kb r ∈ keysOf b
  · have : ¬ (keysOf b).count (ky (bytesOfRow r)) = 0 := fun q => List.count_eq_zero.1 q h
    simp [h, this]
  · have : (keysOf b).count (ky (bytesOfRow r)) = 0 := List.count_eq_zero.2 h
    simp [h, this]
theorem intersect_part (a b : List (List S33)) : keepL (fun s => decide (0 < (keysOf b).count (ky s))) [] a = (distinctL a).filter (fun r => decide (kb r ∈ keysOf b) == true) := by
  rw [keepL_filter]
  unfold distinctL
  congr 1
  funext r
  by_cases h : kb r ∈ keysOf b
  · have : 0 < (keysOf b).count (ky (bytesOfRow r)) := List.count_pos_iff.2 h
    simp [h]
  · have : ¬ 0 < (keysOf b).count (ky (bytesOfRow r)) := fun q => h (List.count_pos_iff.1 q)
    simp [h]

/-! ### Which lists of rows are gone through -/
theorem right11 (k : Nat) (x : S33) : cordonlaw01_Right.f (k + 1) x.f0 x.f1 x.f2 = some (rightV x == 0) := by
  unfold cordonlaw01_Right.f
  rw [right_ref k x]
  rfl
theorem few_l2 (x9 : List (List (List S33))) (x10 x11 : Int) (x18 : List (List S33)) (x19 x20 : Int) (row : List S33) (hl : row.length ≤ 9223372036854775807) (C : Prop)
    (hn : ∃ k r, cordonlaw11_Few.l1 k x9 x10 x11 x18 x19 (wrap64 (x20 + 1)) = some r ∧ (r = true → C)) (d : Nat) : ∀ (i : Nat), i + d = row.length →
    ∃ k r, cordonlaw11_Few.l2 k x9 x10 x11 x18 x19 x20 row (row.length : Int) (i : Int) = some r ∧ (r = true → C ∧ ∀ v ∈ row.drop i, rightV v = 0) := by
  induction d with
  | zero =>
    intro i hd
    obtain ⟨k, r, h, hr⟩ := hn
    refine ⟨k + 1, r, ?_, fun q => ⟨hr q, by rw [List.drop_eq_nil_of_le (by omega)]; simp⟩⟩
    rw [cordonlaw11_Few.l2, if_neg (by omega), h]
  | succ d ih =>
    intro i hd
    obtain ⟨k, r, h, hr⟩ := ih (i + 1) (by omega)
    have hw : wrap64 ((i : Int) + 1) = ((i + 1 : Nat) : Int) := by unfold wrap64; omega
    have hi : i < row.length := by omega
    have e : rd_T33 row (i : Int) = row[i] := by unfold rd_T33; simp [List.getD_eq_getElem?_getD, List.getElem?_eq_getElem hi]
    by_cases c : rightV row[i] = 0
    · refine ⟨k + 1 + 1, r, ?_, fun q => ⟨(hr q).1, fun v hv => ?_⟩⟩
      · rw [cordonlaw11_Few.l2, if_pos (by omega), if_pos (by omega), if_pos (by omega), right11 k, Option.bind_some, e, c, if_pos (by rfl), hw]
        exact (cordonlaw11_Few.mono_l k).2.2 _ _ _ _ _ _ _ _ _ r h
      · rw [List.drop_eq_getElem_cons hi] at hv
        rcases List.mem_cons.1 hv with rfl | hv
        · exact c
        · exact (hr q).2 v hv
    · refine ⟨1 + 1, false, ?_, fun q => by cases q⟩
      rw [cordonlaw11_Few.l2, if_pos (by omega), if_pos (by omega), if_pos (by omega), right11 0, Option.bind_some, e, if_neg (by simp [c])]
theorem few_l1 (x9 : List (List (List S33))) (x10 x11 : Int) (x18 : List (List S33)) (hl : x18.length ≤ 9223372036854775807) (hx : ∀ r ∈ x18, r.length ≤ 9223372036854775807) (C : Prop)
    (hn : ∃ k r, cordonlaw11_Few.l0 k x9 x10 (wrap64 (x11 + 1)) = some r ∧ (r = true → C)) (d : Nat) : ∀ (i : Nat), i + d = x18.length →
    ∃ k r, cordonlaw11_Few.l1 k x9 x10 x11 x18 (x18.length : Int) (i : Int) = some r ∧ (r = true → C ∧ ∀ l ∈ x18.drop i, l.length ≤ 40 ∧ ∀ v ∈ l, rightV v = 0) := by
  induction d with
  | zero =>
    intro i hd
    obtain ⟨k, r, h, hr⟩ := hn
    refine ⟨k + 1, r, ?_, fun q => ⟨hr q, by rw [List.drop_eq_nil_of_le (by omega)]; simp⟩⟩
    rw [cordonlaw11_Few.l1, if_neg (by omega), h]
  | succ d ih =>
    intro i hd
    have hw : wrap64 ((i : Int) + 1) = ((i + 1 : Nat) : Int) := by unfold wrap64; omega
    have hi : i < x18.length := by omega
    have hrd := rd_in (l := x18) (i := i) hi
    by_cases c : ((rd_L4 x18 (i : Int)).length : Int) > 40
    · refine ⟨0 + 1, false, ?_, fun q => by cases q⟩
      rw [cordonlaw11_Few.l1, if_pos (by omega), if_pos (by omega), if_pos (by omega), if_pos c]
    · obtain ⟨k, r, h, hr⟩ := few_l2 x9 x10 x11 x18 (x18.length : Int) (i : Int) (rd_L4 x18 (i : Int)) (hx _ hrd) _ (by rw [hw]; exact ih (i + 1) (by omega)) (rd_L4 x18 (i : Int)).length 0 (by omega)
      refine ⟨k + 1, r, ?_, fun q => ⟨(hr q).1.1, fun l hlm => ?_⟩⟩
      · rw [cordonlaw11_Few.l1, if_pos (by omega), if_pos (by omega), if_pos (by omega), if_neg c]
        exact h
      · rw [drop_rdN hi] at hlm
        rcases List.mem_cons.1 hlm with rfl | hlm
        · exact ⟨by omega, by simpa using (hr q).2⟩
        · exact (hr q).1.2 l hlm
theorem few_l0' (x9 : List (List (List S33))) (hl : x9.length ≤ 9223372036854775807) (hx : ∀ l ∈ x9, l.length ≤ 9223372036854775807 ∧ ∀ r ∈ l, r.length ≤ 9223372036854775807) (d : Nat) : ∀ (i : Nat), i + d = x9.length →
    ∃ k r, cordonlaw11_Few.l0 k x9 (x9.length : Int) (i : Int) = some r ∧ (r = true → ∀ l ∈ x9.drop i, l.length ≤ 40 ∧ ∀ r ∈ l, r.length ≤ 40 ∧ ∀ v ∈ r, rightV v = 0) := by
  induction d with
  | zero =>
    intro i hd
    refine ⟨0 + 1, true, ?_, fun q => by rw [List.drop_eq_nil_of_le (by omega)]; simp⟩
    rw [cordonlaw11_Few.l0, if_neg (by omega)]
  | succ d ih =>
    intro i hd
    have hw : wrap64 ((i : Int) + 1) = ((i + 1 : Nat) : Int) := by unfold wrap64; omega
    have hi : i < x9.length := by omega
    have e : rd_L5 x9 (i : Int) = x9[i] := by unfold rd_L5; simp [List.getD_eq_getElem?_getD, List.getElem?_eq_getElem hi]
    have hm := hx _ (List.getElem_mem hi)
    by_cases c : ((x9[i]).length : Int) > 40
    · refine ⟨0 + 1, false, ?_, fun q => by cases q⟩
      rw [cordonlaw11_Few.l0, if_pos (by omega), if_pos (by omega), if_pos (by omega), e, if_pos c]
    · obtain ⟨k, r, h, hr⟩ := few_l1 x9 (x9.length : Int) (i : Int) x9[i] hm.1 hm.2 _ (by rw [hw]; exact ih (i + 1) (by omega)) (x9[i]).length 0 (by omega)
      refine ⟨k + 1, r, ?_, fun q l hlm => ?_⟩
      · rw [cordonlaw11_Few.l0, if_pos (by omega), if_pos (by omega), if_pos (by omega), e, if_neg c]
        exact h
      · rw [List.drop_eq_getElem_cons hi] at hlm
        rcases List.mem_cons.1 hlm with rfl | hlm
        · exact ⟨by omega, by simpa using (hr q).2⟩
        · exact (hr q).1 l hlm
/-- A list of rows that is gone through. -/
def gL (l : List (List S33)) : Prop := l.length ≤ 40 ∧ ∀ r ∈ l, gR r
theorem few11 (x9 : List (List (List S33))) (hl : x9.length ≤ 9223372036854775807) (hx : ∀ l ∈ x9, l.length ≤ 9223372036854775807 ∧ ∀ r ∈ l, r.length ≤ 9223372036854775807 ∧ ∀ y ∈ r, okv y) :
    ∃ k r, cordonlaw11_Few.f k x9 = some r ∧ (r = true → ∀ l ∈ x9, gL l) := by
  obtain ⟨k, r, h, hr⟩ := few_l0' x9 hl (fun l hl => ⟨(hx l hl).1, fun r hr => ((hx l hl).2 r hr).1⟩) x9.length 0 (by omega)
  refine ⟨k, r, h, fun q l hlm => ?_⟩
  have h1 := hr q l (by simpa using hlm)
  refine ⟨h1.1, fun r hrm => ⟨(h1.2 r hrm).1, fun y hy => ?_⟩⟩
  have h2 := (((hx l hlm).2 r hrm).2 y hy).2.1
  have h3 : -9223372036854775808 ≤ y.f1 ∧ y.f1 ≤ 9223372036854775807 := by
    simp only [Lit.wf, Bool.and_eq_true, decide_eq_true_eq] at h2
    exact h2
  exact ⟨(h1.2 r hrm).2 y hy, h3⟩
end Go.Proofs.Ythghflgmeepnlaa.Pa
namespace Go.Proofs.Ythghflgmeepnlaa.Pa
open Go.RowKit Go.Proofs.YthghflgmeepnlaaW.PrintWords Go.Proofs.YthghflgmeepnlaaW.PrintLast Go.Proofs.YthghflgmeepnlaaW.PrintMore
set_option linter.unusedVariables false
set_option linter.unusedSimpArgs false

def exL (a b : List (List S33)) : List (List S33) := (distinctL a).filter (fun r => decide (kb r ∈ keysOf b) == false)
def inL (a b : List (List S33)) : List (List S33) := (distinctL a).filter (fun r => decide (kb r ∈ keysOf b) == true)
theorem C_V {w : World} {A : Option Addr} {c : Nat} {l : List (List S33)} (h : Kd.C (Kd.slice 33 k33) w A l.length l) (hc : l.length ≤ c) : Kd.V (Kd.slice 33 k33) 22 w 0 (fun _ => True) (.slice A l.length c) l :=
  Kd.V_mono (Kd.V_mk hc (Kd.C_F (Kd.heap_slice 33 k33_heap) h)) (fun _ _ => trivial)
structure Fine (l : List (List S33)) : Prop where
  len : l.length < 1000000000
  good : ∀ r ∈ l, gR r
theorem Fine.row {l : List (List S33)} (h : Fine l) : ∀ r ∈ l, r.length ≤ 9223372036854775807 := fun r hr => by have := (h.good r hr).1; omega
theorem Fine.max {l : List (List S33)} (h : Fine l) : ∀ r ∈ l, (bytesOfRow r).size ≤ maxLen := fun r hr => max_ok (h.good r hr)
theorem gL_fine {l : List (List S33)} (h : gL l) : Fine l := ⟨by have := h.1; omega, h.2⟩
theorem keep_fine {l : List (List S33)} (h : Fine l) (may : ByteArray → Bool) (s : List (List UInt8)) : Fine (keepL may s l) := ⟨by have := keepL_len may l s; have := h.len; omega, fun r hr => h.good r (keepL_sub may l s r hr)⟩
theorem dist_fine {l : List (List S33)} (h : Fine l) : Fine (distinctL l) := keep_fine h _ _
theorem filter_fine {l : List (List S33)} (h : Fine l) (p : List S33 → Bool) : Fine (l.filter p) := ⟨by have := List.length_filter_le p l; have := h.len; omega, fun r hr => h.good r (List.mem_filter.1 hr).1⟩
/-- R.Same at a list and itself. -/
theorem Same_calls {l : List (List S33)} (h : Fine l) {W : World} {b1 b2 : Nat} {ok1 ok2 : Nat → Prop} {A1 A2 : Option Addr} {c1 c2 : Nat} (h1 : Kd.V (Kd.slice 33 k33) 22 W b1 ok1 (.slice A1 l.length c1) l) (h2 : Kd.V (Kd.slice 33 k33) 22 W b2 ok2 (.slice A2 l.length c2) l) :
    Calls Try.prog 56 #[.slice A1 l.length c1, .slice A2 l.length c2] W fun e w' => e = .returned (.bool true) ∧ Below W.heap.size W w' :=
  (cordonref11_Same.calls (0 + l.length + 62) A1 c1 l A2 c2 l true W (Kd.V_reads' h1).2.2 (Kd.V_reads' h1).2.1 (Kd.V_reads' h2).2.2 (Kd.V_reads' h2).2.1 (rsame_is l h.good h.len 0)).mono fun e w' ⟨he, nd, hw⟩ => ⟨he, by rw [hw]; exact pw_below_drewN (Below.refl _ _) nd⟩
/-- Few's contract at what is read. -/
theorem Few_calls {ls : List (List (List S33))} {r : Bool} {k : Nat} (h : cordonlaw11_Few.f k ls = some r) {W : World} {b : Nat} {ok : Nat → Prop} {A : Option Addr} {c : Nat} (h1 : Kd.V (Kd.slice 22 (Kd.slice 33 k33)) 58 W b ok (.slice A ls.length c) ls) :
    Calls Try.prog 54 #[.slice A ls.length c] W fun e w' => e = .returned (.bool r) ∧ Below W.heap.size W w' :=
  cordonlaw11_Few.calls k A c ls r W (Kd.V_reads' h1).2.2 (Kd.V_reads' h1).2.1 h

set_option maxHeartbeats 16000000 in
set_option maxRecDepth 1000000 in
theorem RowsSets.calls (A0 : Option Addr) (c0 : Nat) (l0 : List (List S33)) (A1 : Option Addr) (c1 : Nat) (l1 : List (List S33)) (w : World) (hr0 : Kd.C (Kd.slice 33 k33) w A0 l0.length l0) (hc0 : l0.length ≤ c0) (hr1 : Kd.C (Kd.slice 33 k33) w A1 l1.length l1) (hc1 : l1.length ≤ c1)
    (hp : ∃ k r, cordonlaw11_Few.f k [l0, l1] = some r ∧ (r = true → ∀ l ∈ [l0, l1], gL l)) :
    Calls Try.prog 16 #[.slice A0 l0.length c0, .slice A1 l1.length c1] w fun e w' => e = .returned (.bool true) ∧ Below w.heap.size w w' := by
  obtain ⟨k, r, hk, hg⟩ := hp
  have A := Aside0.mk (C_V hr0 hc0)
  have B := Aside0.mk (C_V hr1 hc1)
  have HB := Aside0.mk (Below.refl w.heap.size w)
  have HG := Aside0.mk hg
  have HF := Aside0.mk (Few_calls hk (V_lit (Kd.slice 22 (Kd.slice 33 k33)) 58 (W := w) (xs := [l0, l1]) (inner := [.slice A0 l0.length c0, .slice A1 l1.length c1]) (Reps.one (Kd.FK_slice_mk (Kd.V_reads' A.out).2.1 (Kd.V_F A.out)) (Reps.one (Kd.FK_slice_mk (Kd.V_reads' B.out).2.1 (Kd.V_F B.out)) (Reps.none _ _))) (by simp)))
  clear hr0 hc0 hr1 hc1 hk hg
  go_enter Try.func16, Try.ntmps16
  go_wp2_with fail
  refine HF.out.mono ?_
  rintro e w0 ⟨rfl, hb0⟩
  have hb : Below w.heap.size w w0 := below_step (below_alloc (Below.refl w.heap.size w) _) hb0
  clear hb0 HF
  replace A := Aside0.mk (Kd.V_below A.out hb)
  replace B := Aside0.mk (Kd.V_below B.out hb)
  replace HB := Aside0.mk (below_step HB.out hb)
  clear hb
  cases r with
  | false =>
    go_wp2_with fail
    refine (alive_calls _).mono ?_
    rintro e w1 ⟨rfl, hb⟩
    replace HB := Aside0.mk (below_step HB.out hb)
    clear hb
    go_wp2
    go_ret
    exact ⟨rfl, HB.out⟩
  | true =>
    have F0 := Aside0.mk (gL_fine (HG.out rfl l0 (by simp)))
    have F1 := Aside0.mk (gL_fine (HG.out rfl l1 (by simp)))
    have FX := Aside0.mk (show Fine (l0 ++ l1) from ⟨by rw [List.length_append]; have h0 := (HG.out rfl l0 (by simp)).1; have h1 := (HG.out rfl l1 (by simp)).1; omega, fun r hr => (List.mem_append.1 hr).elim (F0.out.good r) (F1.out.good r)⟩)
    have HL := Aside0.mk (⟨(HG.out rfl l0 (by simp)).1, (HG.out rfl l1 (by simp)).1⟩ : l0.length ≤ 40 ∧ l1.length ≤ 40)
    clear HG
    go_wp2_with fail
    refine (rows_Distinct_calls (fun _ => True) A0 c0 l0 _ A.out (by have := F0.out.len; omega) F0.out.row F0.out.max).mono ?_
    rintro e wD ⟨vD, rfl, ho, hb⟩
    replace A := Aside0.mk (Kd.V_below A.out hb)
    replace B := Aside0.mk (Kd.V_below B.out hb)
    replace HB := Aside0.mk (below_step HB.out hb)
    clear hb
    have D := Aside0.mk (Kd.V_mono (ok' := fun _ => True) (Kd.N_V (base' := 0) ho) (fun _ _ => trivial))
    clear ho
    obtain ⟨AD, cD, eD, _, _⟩ := D.out
    subst eD
    go_wp2_with fail
    refine (cordonref11_Distinct.calls _ (fun _ => True) A0 c0 l0 (distinctL l0) _ A.out (dist_is l0 F0.out.good F0.out.len 0)).mono ?_
    rintro e wE ⟨vE, rfl, ho, hb⟩
    replace A := Aside0.mk (Kd.V_below A.out hb)
    replace B := Aside0.mk (Kd.V_below B.out hb)
    replace D := Aside0.mk (Kd.V_below D.out hb)
    replace HB := Aside0.mk (below_step HB.out hb)
    clear hb
    have E := Aside0.mk (Kd.V_mono (ok' := fun _ => True) (Kd.N_V (base' := 0) ho) (fun _ _ => trivial))
    clear ho
    obtain ⟨AE, cE, eE, _, _⟩ := E.out
    subst eE
    go_wp2_with fail
    refine (Same_calls (dist_fine F0.out) D.out E.out).mono ?_
    rintro e ws1 ⟨rfl, hb⟩
    clear D E
    replace A := Aside0.mk (Kd.V_below A.out hb)
    replace B := Aside0.mk (Kd.V_below B.out hb)
    replace HB := Aside0.mk (below_step HB.out hb)
    clear hb
    go_wp2_with fail
    refine (Union_calls (fun _ => True) (fun _ => True) A0 c0 l0 A1 c1 l1 _ A.out B.out F0.out.len F0.out.row F0.out.max F1.out.len F1.out.row F1.out.max).mono ?_
    rintro e wU ⟨vU, rfl, ho, hb⟩
    replace A := Aside0.mk (Kd.V_below A.out hb)
    replace B := Aside0.mk (Kd.V_below B.out hb)
    replace HB := Aside0.mk (below_step HB.out hb)
    clear hb
    have U := Aside0.mk (Kd.V_mono (ok' := fun _ => True) (Kd.N_V (base' := 0) ho) (fun _ _ => trivial))
    clear ho
    obtain ⟨AU, cU, eU, _, _⟩ := U.out
    subst eU
    have A' := Aside0.mk (Kd.V_bound A.out)
    have B' := Aside0.mk (Kd.V_bound B.out)
    have U' := Aside0.mk (Kd.V_bound U.out)
    clear A B U
    obtain ⟨X, hX⟩ : ∃ X, X = l0 ++ l1 := ⟨_, rfl⟩
    have HX := Aside0.mk hX
    rw [← hX] at FX U' ⊢
    clear hX
    have HB' := Aside0.mk (Below.refl wU.heap.size wU)
    go_wp2_with (first
      | ((with_reducible refine gate_dst (N := 20) rfl ?_); (try (refine gate_guard (by rfl) ?_; dsimp only)); refine Kd.N_lit (Kd.slice 33 k33) (w0 := wU) wU.heap.size 22 ?hg (N' := 20) ?hd (xs := ([] : List (List S33))) (inner := []) (ok := (fun _ => True)) (okp := fun _ => False) ?hr (Reps.none _ _) (fun _ h => h.elim) trivial HB'.out (Nat.le_refl _) (by simp) ?_; (case hd => rfl); (case hg => rfl); (case hr => first | (go_simp; done) | (go_simp; rfl)); intro v1 w1 ho hb hg_ hnew_; have HN := Aside0.mk ho; have HB1 := Aside0.mk hb; have A1' := Aside0.mk (Kd.V_below A'.out hb); have B1' := Aside0.mk (Kd.V_below B'.out hb); have U1' := Aside0.mk (Kd.V_below U'.out hb); (obtain ⟨Ao, co, eo⟩ := Kd.N_slice ho); subst eo; clear ho hb hg_ hnew_ A' B' U' HB')
      | ((with_reducible refine gate_builtin (b := .append) (xs := #[.tmp 20, .tmp 21]) rfl ?_); (try (refine gate_guard (by rfl) ?_; dsimp only)); at_builtin; go_loud (refine Kd.N_append_rows (Kd.slice 33 k33) (w0 := wU) wU.heap.size rfl (.tmp 20) (.tmp 21) 58 22 (.slice none 0 0) 24 rfl Try.underlying58 info22 rfl (by decide) (by omega) (.slice Ao 0 co) ([] : List (List S33)) l0 A0 l0.length c0 (fun _ => True) (fun k_ => True ∧ k_ < wU.heap.size) rfl rfl ?aO ?aR ?aK ?aF HB1.out (below_size HB1.out) ?aL ?_; (case aO => exact HN.out); (case aR => exact Kd.V_F A1'.out); (case aK => exact (fun k hk => ⟨trivial, fun he => by have h1 := N_base HN.out k he.symm; have h2 := hk.2; omega⟩)); (case aF => exact (fun k hk => trivial)); (case aL => have := HL.out; simp; omega); intro v2 w2 ho hb hg hat; rw [List.nil_append] at ho; have HN2 := Aside0.mk ho; have HB2 := Aside0.mk hb; have A2' := Aside0.mk (Kd.V_grown A1'.out hg (fun k hk he => by have h1 := N_base HN.out k he.symm; have h2 := hk.2; omega)); have B2' := Aside0.mk (Kd.V_grown B1'.out hg (fun k hk he => by have h1 := N_base HN.out k he.symm; have h2 := hk.2; omega)); have U2' := Aside0.mk (Kd.V_grown U1'.out hg (fun k hk he => by have h1 := N_base HN.out k he.symm; have h2 := hk.2; omega)); (obtain ⟨Ap, cp, ep⟩ := Kd.N_slice ho); subst ep; clear ho hb hg hat A1' B1' U1' HN HB1))
      | ((with_reducible refine gate_builtin (b := .append) (xs := #[.tmp 22, .tmp 23]) rfl ?_); (try (refine gate_guard (by rfl) ?_; dsimp only)); at_builtin; go_loud (refine Kd.N_append_rows (Kd.slice 33 k33) (w0 := wU) wU.heap.size rfl (.tmp 22) (.tmp 23) 58 22 (.slice none 0 0) 24 rfl Try.underlying58 info22 rfl (by decide) (by omega) (.slice Ap l0.length cp) l0 l1 A1 l1.length c1 (fun _ => True) (fun k_ => True ∧ k_ < wU.heap.size) rfl rfl ?aO ?aR ?aK ?aF HB2.out (below_size HB2.out) ?aL ?_; (case aO => exact HN2.out); (case aR => exact Kd.V_F B2'.out); (case aK => exact (fun k hk => ⟨trivial, fun he => by have h1 := N_base HN2.out k he.symm; have h2 := hk.2; omega⟩)); (case aF => exact (fun k hk => trivial)); (case aL => have := HL.out; omega); intro v3 w3 ho hb hg hat; rw [← HX.out] at ho; have HN3 := Aside0.mk ho; have HB3 := Aside0.mk hb; have A := Aside0.mk (Kd.V_grown A2'.out hg (fun k hk he => by have h1 := N_base HN2.out k he.symm; have h2 := hk.2; omega)); have B := Aside0.mk (Kd.V_grown B2'.out hg (fun k hk he => by have h1 := N_base HN2.out k he.symm; have h2 := hk.2; omega)); have U := Aside0.mk (Kd.V_grown U2'.out hg (fun k hk he => by have h1 := N_base HN2.out k he.symm; have h2 := hk.2; omega)); (obtain ⟨Aq, cq, eq⟩ := Kd.N_slice ho); subst eq; clear ho hb hg hat A2' B2' U2' HN2 HB2)))
    replace HB := Aside0.mk (below_step HB.out HB3.out)
    have XX := Aside0.mk (Kd.N_V (base' := 0) HN3.out)
    clear HB3 HN3
    replace A := Aside0.mk (Kd.V_mono (ok' := fun _ => True) A.out (fun _ _ => trivial))
    replace B := Aside0.mk (Kd.V_mono (ok' := fun _ => True) B.out (fun _ _ => trivial))
    refine (cordonref11_Distinct.calls _ (fun _ => True) Aq cq X (distinctL X) _ XX.out (dist_is X FX.out.good FX.out.len 0)).mono ?_
    rintro e wE ⟨vE, rfl, ho, hb⟩
    replace A := Aside0.mk (Kd.V_below A.out hb)
    replace B := Aside0.mk (Kd.V_below B.out hb)
    replace U := Aside0.mk (Kd.V_below U.out hb)
    replace XX := Aside0.mk (Kd.V_below XX.out hb)
    replace HB := Aside0.mk (below_step HB.out hb)
    clear hb
    have E := Aside0.mk (Kd.V_mono (ok' := fun _ => True) (Kd.N_V (base' := 0) ho) (fun _ _ => trivial))
    clear ho
    obtain ⟨AE, cE, eE, _, _⟩ := E.out
    subst eE
    clear XX
    go_wp2_with fail
    refine (Same_calls (dist_fine FX.out) U.out E.out).mono ?_
    rintro e ws2 ⟨rfl, hb⟩
    clear U E
    replace A := Aside0.mk (Kd.V_below A.out hb)
    replace B := Aside0.mk (Kd.V_below B.out hb)
    replace HB := Aside0.mk (below_step HB.out hb)
    clear hb
    clear FX HX
    go_wp2_with fail
    refine (Except_calls (fun _ => True) (fun _ => True) A0 c0 l0 A1 c1 l1 _ A.out B.out F0.out.len F0.out.row F0.out.max F1.out.len F1.out.row F1.out.max).mono ?_
    rintro e wD ⟨vD, rfl, ho, hb⟩
    rw [except_part, show (distinctL l0).filter (fun r => decide (kb r ∈ keysOf l1) == false) = exL l0 l1 from rfl] at ho
    replace A := Aside0.mk (Kd.V_below A.out hb)
    replace B := Aside0.mk (Kd.V_below B.out hb)
    replace HB := Aside0.mk (below_step HB.out hb)
    clear hb
    have D := Aside0.mk (Kd.V_mono (ok' := fun _ => True) (Kd.N_V (base' := 0) ho) (fun _ _ => trivial))
    clear ho
    obtain ⟨AD, cD, eD, _, _⟩ := D.out
    subst eD
    go_wp2_with fail
    refine (cordonref11_Part.calls _ (fun _ => True) A0 c0 l0 A1 c1 l1 false (exL l0 l1) _ A.out (Kd.V_reads' B.out).2.2 (Kd.V_reads' B.out).2.1 (part_is l0 l1 false F0.out.good F1.out.good F0.out.len F1.out.len 0)).mono ?_
    rintro e wE ⟨vE, rfl, ho, hb⟩
    replace A := Aside0.mk (Kd.V_below A.out hb)
    replace B := Aside0.mk (Kd.V_below B.out hb)
    replace D := Aside0.mk (Kd.V_below D.out hb)
    replace HB := Aside0.mk (below_step HB.out hb)
    clear hb
    have E := Aside0.mk (Kd.V_mono (ok' := fun _ => True) (Kd.N_V (base' := 0) ho) (fun _ _ => trivial))
    clear ho
    obtain ⟨AE, cE, eE, _, _⟩ := E.out
    subst eE
    go_wp2_with fail
    refine (Same_calls (filter_fine (dist_fine F0.out) _ : Fine (exL l0 l1)) D.out E.out).mono ?_
    rintro e ws3 ⟨rfl, hb⟩
    clear D E
    replace A := Aside0.mk (Kd.V_below A.out hb)
    replace B := Aside0.mk (Kd.V_below B.out hb)
    replace HB := Aside0.mk (below_step HB.out hb)
    clear hb
    go_wp2_with fail
    refine (Intersect_calls (fun _ => True) (fun _ => True) A0 c0 l0 A1 c1 l1 _ A.out B.out F0.out.len F0.out.row F0.out.max F1.out.len F1.out.row F1.out.max).mono ?_
    rintro e wD ⟨vD, rfl, ho, hb⟩
    rw [intersect_part, show (distinctL l0).filter (fun r => decide (kb r ∈ keysOf l1) == true) = inL l0 l1 from rfl] at ho
    replace A := Aside0.mk (Kd.V_below A.out hb)
    replace B := Aside0.mk (Kd.V_below B.out hb)
    replace HB := Aside0.mk (below_step HB.out hb)
    clear hb
    have D := Aside0.mk (Kd.V_mono (ok' := fun _ => True) (Kd.N_V (base' := 0) ho) (fun _ _ => trivial))
    clear ho
    obtain ⟨AD, cD, eD, _, _⟩ := D.out
    subst eD
    go_wp2_with fail
    refine (cordonref11_Part.calls _ (fun _ => True) A0 c0 l0 A1 c1 l1 true (inL l0 l1) _ A.out (Kd.V_reads' B.out).2.2 (Kd.V_reads' B.out).2.1 (part_is l0 l1 true F0.out.good F1.out.good F0.out.len F1.out.len 0)).mono ?_
    rintro e wE ⟨vE, rfl, ho, hb⟩
    replace A := Aside0.mk (Kd.V_below A.out hb)
    replace B := Aside0.mk (Kd.V_below B.out hb)
    replace D := Aside0.mk (Kd.V_below D.out hb)
    replace HB := Aside0.mk (below_step HB.out hb)
    clear hb
    have E := Aside0.mk (Kd.V_mono (ok' := fun _ => True) (Kd.N_V (base' := 0) ho) (fun _ _ => trivial))
    clear ho
    obtain ⟨AE, cE, eE, _, _⟩ := E.out
    subst eE
    go_wp2_with fail
    refine (Same_calls (filter_fine (dist_fine F0.out) _ : Fine (inL l0 l1)) D.out E.out).mono ?_
    rintro e ws4 ⟨rfl, hb⟩
    clear D E
    replace A := Aside0.mk (Kd.V_below A.out hb)
    replace B := Aside0.mk (Kd.V_below B.out hb)
    replace HB := Aside0.mk (below_step HB.out hb)
    clear hb
    go_wp2_with fail
    refine (alive_calls _).mono ?_
    rintro e w9 ⟨rfl, hb⟩
    replace HB := Aside0.mk (below_step HB.out hb)
    clear hb
    go_wp2
    go_ret
    exact ⟨rfl, HB.out⟩
end Go.Proofs.Ythghflgmeepnlaa.Pa
namespace Go.Proofs.Ythghflgmeepnlaa.Pure
open Go.RowKit Go.Proofs.Ythghflgmeepnlaa.Pa
theorem RowsSets (l0 : List (List S33)) (h0 : l0.length ≤ maxLen) (g0 : ∀ x ∈ l0, x.length ≤ maxLen ∧ ∀ y ∈ x, okv y) (l1 : List (List S33)) (h1 : l1.length ≤ maxLen) (g1 : ∀ x ∈ l1, x.length ≤ maxLen ∧ ∀ y ∈ x, okv y) :
    ∃ k r, cordonlaw11_Few.f k [l0, l1] = some r ∧ (r = true → ∀ l ∈ [l0, l1], gL l) := by
  have hm : maxLen = 9223372036854775807 := rfl
  refine few11 [l0, l1] (by simp) (fun l hl => ?_)
  simp only [List.mem_cons, List.not_mem_nil, or_false] at hl
  rcases hl with rfl | rfl
  · exact ⟨by omega, fun r hr => ⟨by have := (g0 r hr).1; omega, (g0 r hr).2⟩⟩
  · exact ⟨by omega, fun r hr => ⟨by have := (g1 r hr).1; omega, (g1 r hr).2⟩⟩
end Go.Proofs.Ythghflgmeepnlaa.Pure
