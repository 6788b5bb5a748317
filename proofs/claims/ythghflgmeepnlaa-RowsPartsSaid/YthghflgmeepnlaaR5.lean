/- Rows in plain terms: the parts of two lists. cordonlaw11.RowsParts answers true. -/
import Derived.Test.YthghflgmeepnlaaR4
namespace Go.Proofs.Ythghflgmeepnlaa.Pa
open Go.RowKit Go.Proofs.YthghflgmeepnlaaW.PrintWords Go.Proofs.YthghflgmeepnlaaW.PrintLast Go.Proofs.YthghflgmeepnlaaW.PrintMore
set_option linter.unusedVariables false
set_option linter.unusedSimpArgs false

theorem mem_keys {l : List (List S33)} {r : List S33} (h : r ∈ l) : kb r ∈ keysOf l := List.mem_map_of_mem (f := fun r => ky (bytesOfRow r)) h
theorem keys_mem {l : List (List S33)} {s : List UInt8} (h : s ∈ keysOf l) : ∃ r ∈ l, kb r = s := by
  unfold keysOf at h
  obtain ⟨r, h1, h2⟩ := List.mem_map.1 h
  exact ⟨r, h1, h2⟩
theorem len_parts (a b : List (List S33)) : (exL a b).length + (inL a b).length = (distinctL a).length := by
  unfold exL inL
  generalize distinctL a = d
  induction d with
  | nil => rfl
  | cons r d ih =>
    by_cases h : kb r ∈ keysOf b
    · rw [List.filter_cons_of_neg (by simp [h]), List.filter_cons_of_pos (by simp [h]), List.length_cons, List.length_cons]; omega
    · rw [List.filter_cons_of_pos (by simp [h]), List.filter_cons_of_neg (by simp [h]), List.length_cons, List.length_cons]; omega
theorem in_ex {a b : List (List S33)} {r : List S33} (h : r ∈ distinctL a) : kb r ∈ keysOf (exL a b) ↔ kb r ∉ keysOf b := by
  constructor
  · intro q
    obtain ⟨r', h1, h2⟩ := keys_mem q
    have h3 := (List.mem_filter.1 h1).2
    rw [h2] at h3
    simpa using h3
  · intro q
    exact mem_keys (List.mem_filter.2 ⟨h, by simp [q]⟩)
theorem in_in {a b : List (List S33)} {r : List S33} (h : r ∈ distinctL a) : kb r ∈ keysOf (inL a b) ↔ kb r ∈ keysOf b := by
  constructor
  · intro q
    obtain ⟨r', h1, h2⟩ := keys_mem q
    have h3 := (List.mem_filter.1 h1).2
    rw [h2] at h3
    simpa using h3
  · intro q
    exact mem_keys (List.mem_filter.2 ⟨h, by simp [q]⟩)
/-- Each key that was not met is kept. -/
theorem keep_keys : ∀ (l : List (List S33)) (s : List (List UInt8)) (x : List UInt8), x ∈ keysOf l → x ∉ s → x ∈ keysOf (keepL (fun _ => true) s l)
  | [], s, x, h, _ => h
  | r :: l, s, x, h, hs => by
    unfold keepL
    by_cases c : s.count (ky (bytesOfRow r)) = 0
    · rw [if_pos ⟨c, rfl⟩]
      by_cases e : x = kb r
      · rw [e]; exact mem_keys (by simp)
      · have h2 : x ∈ keysOf l := by
          rcases List.mem_cons.1 (show x ∈ kb r :: keysOf l from h) with h | h
          · exact absurd h e
          · exact h
        exact List.mem_cons_of_mem _ (keep_keys l _ x h2 (fun q => by
          rcases List.mem_cons.1 q with q | q
          · exact e q
          · exact hs q))
    · rw [if_neg (fun q => c q.1)]
      have hr : kb r ∈ s := by
        by_cases q : kb r ∈ s
        · exact q
        · exact absurd (List.count_eq_zero.2 q) c
      have e : ¬ x = kb r := fun e => hs (e ▸ hr)
      have h2 : x ∈ keysOf l := by
        rcases List.mem_cons.1 (show x ∈ kb r :: keysOf l from h) with h | h
        · exact absurd h e
        · exact h
      exact keep_keys l _ x h2 (fun q => by
        rcases List.mem_cons.1 q with q | q
        · exact e q
        · exact hs q)
theorem dist_keys {l : List (List S33)} {x : List UInt8} : x ∈ keysOf (distinctL l) ↔ x ∈ keysOf l := by
  constructor
  · intro h
    obtain ⟨r, h1, h2⟩ := keys_mem h
    rw [← h2]
    exact mem_keys (keepL_sub _ _ _ r h1)
  · intro h
    exact keep_keys l [] x h (by simp)
theorem in_union {a b : List (List S33)} {r : List S33} (h : r ∈ distinctL a) : kb r ∈ keysOf (distinctL (a ++ b)) := by
  rw [dist_keys]
  exact mem_keys (List.mem_append_left _ (keepL_sub _ _ _ r h))
theorem of_union {a b : List (List S33)} {r : List S33} (h : r ∈ distinctL (a ++ b)) : kb r ∈ keysOf a ∨ kb r ∈ keysOf b := by
  rcases List.mem_append.1 (keepL_sub _ _ _ r h) with h | h
  · exact .inl (mem_keys h)
  · exact .inr (mem_keys h)
theorem keep_more : ∀ (l : List (List S33)) (s t : List (List UInt8)), keepL (fun _ => true) (s ++ t) l = (keepL (fun _ => true) t l).filter (fun r => decide (kb r ∉ s))
  | [], s, t => rfl
  | r :: l, s, t => by
    unfold keepL
    have e : keepL (fun _ => true) (ky (bytesOfRow r) :: (s ++ t)) l = keepL (fun _ => true) (s ++ ky (bytesOfRow r) :: t) l := keepL_congr _ _ _ _ (fun x => by simp; constructor <;> (intro h; rcases h with h | h | h <;> simp [h]))
    have ih := keep_more l s (ky (bytesOfRow r) :: t)
    by_cases ct : t.count (ky (bytesOfRow r)) = 0
    · rw [if_pos (⟨ct, rfl⟩ : _ ∧ true = true)]
      by_cases cs : kb r ∈ s
      · rw [if_neg (fun q => by have := List.count_eq_zero.1 q.1; exact this (List.mem_append_left _ cs)), List.filter_cons_of_neg (by simp [cs]), e, ih]
      · rw [if_pos ⟨List.count_eq_zero.2 (fun q => (List.mem_append.1 q).elim cs (List.count_eq_zero.1 ct)), rfl⟩, List.filter_cons_of_pos (by simp [cs]), e, ih]
    · have cst : ¬ (s ++ t).count (ky (bytesOfRow r)) = 0 := fun q => ct (List.count_eq_zero.2 (fun h => List.count_eq_zero.1 q (List.mem_append_right _ h)))
      rw [if_neg (fun q => cst q.1), if_neg (fun q => ct q.1), e, ih]
theorem keep_append : ∀ (a b : List (List S33)) (s : List (List UInt8)), keepL (fun _ => true) s (a ++ b) = keepL (fun _ => true) s a ++ keepL (fun _ => true) (keysOf a ++ s) b
  | [], b, s => rfl
  | r :: a, b, s => by
    have ih := keep_append a b (ky (bytesOfRow r) :: s)
    have e : keepL (fun _ => true) (keysOf a ++ ky (bytesOfRow r) :: s) b = keepL (fun _ => true) (keysOf (r :: a) ++ s) b := keepL_congr _ _ _ _ (fun x => by
      show x ∈ keysOf a ++ kb r :: s ↔ x ∈ (kb r :: keysOf a) ++ s
      simp; constructor <;> (intro h; rcases h with h | h | h <;> simp [h]))
    rw [e] at ih
    show keepL (fun _ => true) s (r :: (a ++ b)) = _
    by_cases c : s.count (ky (bytesOfRow r)) = 0
    · have e1 : ∀ l, keepL (fun _ => true) s (r :: l) = r :: keepL (fun _ => true) (ky (bytesOfRow r) :: s) l := fun l => by rw [keepL, if_pos ⟨c, rfl⟩]
      rw [e1, e1, ih]; rfl
    · have e1 : ∀ l, keepL (fun _ => true) s (r :: l) = keepL (fun _ => true) (ky (bytesOfRow r) :: s) l := fun l => by rw [keepL, if_neg (fun q => c q.1)]
      rw [e1, e1, ih]
theorem len_union (a b : List (List S33)) : (distinctL (a ++ b)).length = (distinctL a).length + (exL b a).length := by
  unfold distinctL
  rw [keep_append, List.length_append, keep_more]
  congr 2
  unfold exL distinctL
  congr 1
  funext r
  by_cases h : kb r ∈ keysOf a <;> simp [h]
theorem keep_same : ∀ (l : List (List S33)) (s t : List (List UInt8)), (∀ x, x ∈ t → x ∈ s) → keepL (fun _ => true) t (keepL (fun _ => true) s l) = keepL (fun _ => true) s l
  | [], s, t, h => rfl
  | r :: l, s, t, h => by
    by_cases c : s.count (ky (bytesOfRow r)) = 0
    · have e : keepL (fun _ => true) s (r :: l) = r :: keepL (fun _ => true) (ky (bytesOfRow r) :: s) l := by rw [keepL, if_pos ⟨c, rfl⟩]
      have ct : t.count (ky (bytesOfRow r)) = 0 := List.count_eq_zero.2 (fun q => List.count_eq_zero.1 c (h _ q))
      rw [e, keepL, if_pos ⟨ct, rfl⟩, keep_same l _ _ (fun x hx => by
        rcases List.mem_cons.1 hx with q | q
        · simp [q]
        · exact List.mem_cons_of_mem _ (h x q))]
    · have e : keepL (fun _ => true) s (r :: l) = keepL (fun _ => true) (ky (bytesOfRow r) :: s) l := by rw [keepL, if_neg (fun q => c q.1)]
      rw [e, keep_same l _ _ (fun x hx => List.mem_cons_of_mem _ (h x hx))]
theorem dist_dist (l : List (List S33)) : distinctL (distinctL l) = distinctL l := keep_same l [] [] (fun x hx => hx)
end Go.Proofs.Ythghflgmeepnlaa.Pa
namespace Go.Proofs.Ythghflgmeepnlaa.Pa
open Go.RowKit Go.Proofs.YthghflgmeepnlaaW.PrintWords Go.Proofs.YthghflgmeepnlaaW.PrintLast Go.Proofs.YthghflgmeepnlaaW.PrintMore
set_option linter.unusedVariables false
set_option linter.unusedSimpArgs false

/-- R.In at what is read. -/
theorem In_calls {l : List (List S33)} {r : List S33} (h : Fine l) (hr : gR r) (v : Bool) (hv : decide (kb r ∈ keysOf l) = v) {W : World} {b1 b2 e2 : Nat} {ok1 ok2 : Nat → Prop} {A1 A2 : Option Addr} {c1 c2 : Nat} (h1 : Kd.V (Kd.slice 33 k33) 22 W b1 ok1 (.slice A1 l.length c1) l) (h2 : Kd.V k33 e2 W b2 ok2 (.slice A2 r.length c2) r) :
    Calls Try.prog 71 #[.slice A1 l.length c1, .slice A2 r.length c2] W fun e w' => e = .returned (.bool v) ∧ Below W.heap.size W w' :=
  (cordonref11_In.calls (0 + l.length + 62) A1 c1 l A2 c2 r v W (Kd.V_reads' h1).2.2 (Kd.V_reads' h1).2.1 (Kd.V_reads' h2).2.2 (Kd.V_reads' h2).2.1 (by rw [in_is l r h.good hr h.len, hv])).mono fun e w' ⟨he, nd, hw⟩ => ⟨he, by rw [hw]; exact pw_below_drewN (Below.refl _ _) nd⟩
theorem row_at {w : World} {l0 : List (List S33)} {b c0 : Nat} {A0 : Option Addr} (hV : Kd.V (Kd.slice 33 k33) 22 w b (fun _ => True) (.slice A0 l0.length c0) l0) (i : Nat) (c2 : (i : Int) < (l0.length : Int)) :
    ∃ (ad : Addr) (A1 : Option Addr) (c1 : Nat), A0 = some ad ∧ w.cell? (ad.add i) = some (.slice A1 (rd_L4 l0 (i : Int)).length c1) ∧ Kd.V k33 33 w 0 (fun _ => True) (.slice A1 (rd_L4 l0 (i : Int)).length c1) (rd_L4 l0 (i : Int)) := by
  obtain ⟨ad, A1, c1, e1, hx1, hl1, hi1⟩ := at_L4 (Kd.V_reads' hV).2.2 (i : Int) (by omega) c2
  simp only [Int.toNat_natCast] at hx1
  exact ⟨ad, A1, c1, e1, hx1, Kd.V_mono (Kd.V_mk hl1 (Kd.C_F k33_heap hi1)) (fun _ _ => trivial)⟩

set_option maxHeartbeats 16000000 in
set_option maxRecDepth 1000000 in
theorem RowsParts.calls (A0 : Option Addr) (c0 : Nat) (l0 : List (List S33)) (A1 : Option Addr) (c1 : Nat) (l1 : List (List S33)) (w : World) (hr0 : Kd.C (Kd.slice 33 k33) w A0 l0.length l0) (hc0 : l0.length ≤ c0) (hr1 : Kd.C (Kd.slice 33 k33) w A1 l1.length l1) (hc1 : l1.length ≤ c1)
    (hp : ∃ k r, cordonlaw11_Few.f k [l0, l1] = some r ∧ (r = true → ∀ l ∈ [l0, l1], gL l)) :
    Calls Try.prog 18 #[.slice A0 l0.length c0, .slice A1 l1.length c1] w fun e w' => e = .returned (.bool true) ∧ Below w.heap.size w w' := by
  obtain ⟨k, r, hk, hg⟩ := hp
  have A := Aside0.mk (C_V hr0 hc0)
  have B := Aside0.mk (C_V hr1 hc1)
  have HB := Aside0.mk (Below.refl w.heap.size w)
  have HG := Aside0.mk hg
  have HF := Aside0.mk (Few_calls hk (V_lit (Kd.slice 22 (Kd.slice 33 k33)) 58 (W := w) (xs := [l0, l1]) (inner := [.slice A0 l0.length c0, .slice A1 l1.length c1]) (Reps.one (Kd.FK_slice_mk (Kd.V_reads' A.out).2.1 (Kd.V_F A.out)) (Reps.one (Kd.FK_slice_mk (Kd.V_reads' B.out).2.1 (Kd.V_F B.out)) (Reps.none _ _))) (by simp)))
  clear hr0 hc0 hr1 hc1 hk hg
  go_enter Try.func18, Try.ntmps18
  go_wp2_with fail
  refine HF.out.mono ?_
  rintro e w0 ⟨rfl, hb0⟩
  have hb : Below w.heap.size w w0 := below_step (below_alloc (Below.refl w.heap.size w) _) hb0
  clear hb0 HF
  replace A := Aside0.mk (Kd.V_below A.out hb)
  replace B := Aside0.mk (Kd.V_below B.out hb)
  replace HB := Aside0.mk (below_step HB.out hb)
  clear hb
  cases r with
  | false =>
    go_wp2_with fail
    refine (alive_calls _).mono ?_
    rintro e w1 ⟨rfl, hb⟩
    replace HB := Aside0.mk (below_step HB.out hb)
    clear hb
    go_wp2
    go_ret
    exact ⟨rfl, HB.out⟩
  | true =>
    have F0 := Aside0.mk (gL_fine (HG.out rfl l0 (by simp)))
    have F1 := Aside0.mk (gL_fine (HG.out rfl l1 (by simp)))
    have FX := Aside0.mk (show Fine (l0 ++ l1) from ⟨by rw [List.length_append]; have h0 := (HG.out rfl l0 (by simp)).1; have h1 := (HG.out rfl l1 (by simp)).1; omega, fun r hr => (List.mem_append.1 hr).elim (F0.out.good r) (F1.out.good r)⟩)
    clear HG
    go_wp2_with fail
    obtain ⟨d, hd⟩ : ∃ d, d = distinctL l0 := ⟨_, rfl⟩
    obtain ⟨x, hx⟩ : ∃ x, x = exL l0 l1 := ⟨_, rfl⟩
    obtain ⟨y, hy⟩ : ∃ y, y = inL l0 l1 := ⟨_, rfl⟩
    obtain ⟨u, hu⟩ : ∃ u, u = distinctL (l0 ++ l1) := ⟨_, rfl⟩
    obtain ⟨z, hz⟩ : ∃ z, z = exL l1 l0 := ⟨_, rfl⟩
    have Fd := Aside0.mk (show Fine d by rw [hd]; exact dist_fine F0.out)
    have Fx := Aside0.mk (show Fine x by rw [hx]; exact filter_fine (dist_fine F0.out) _)
    have Fy := Aside0.mk (show Fine y by rw [hy]; exact filter_fine (dist_fine F0.out) _)
    have Fu := Aside0.mk (show Fine u by rw [hu]; exact dist_fine FX.out)
    have P1 := Aside0.mk (show x.length + y.length = d.length by rw [hx, hy, hd]; exact len_parts l0 l1)
    have P2 := Aside0.mk (show ∀ r ∈ d, (kb r ∈ keysOf x ↔ kb r ∉ keysOf l1) ∧ (kb r ∈ keysOf y ↔ kb r ∈ keysOf l1) ∧ kb r ∈ keysOf u by rw [hx, hy, hd, hu]; exact fun r hr => ⟨in_ex hr, in_in hr, in_union hr⟩)
    have P3 := Aside0.mk (show ∀ r ∈ u, kb r ∈ keysOf l0 ∨ kb r ∈ keysOf l1 by rw [hu]; exact fun r hr => of_union hr)
    have P4 := Aside0.mk (show distinctL u = u by rw [hu]; exact dist_dist _)
    have P5 := Aside0.mk (show d.length + z.length = u.length by rw [hd, hz, hu]; exact (len_union l0 l1).symm)
    have HU4 := Aside0.mk (show u.length < 4000000000000 by have := Fu.out.len; omega)
    have HS2 := Aside0.mk (show wrap64 ((d.length : Int) + (z.length : Int)) = (u.length : Int) by have h1 := P5.out; have h2 := Fu.out.len; unfold wrap64; omega)
    have HS1 := Aside0.mk (show wrap64 ((x.length : Int) + (y.length : Int)) = (d.length : Int) by have h1 := P1.out; have h2 := Fd.out.len; unfold wrap64; omega)
    have Ed := Aside0.mk hd
    have Ex := Aside0.mk hx
    have Ey := Aside0.mk hy
    have Eu := Aside0.mk hu
    have Ez := Aside0.mk hz
    clear hd hx hy hu hz
    refine (rows_Distinct_calls (fun _ => True) A0 c0 l0 _ A.out (by have := F0.out.len; omega) F0.out.row F0.out.max).mono ?_
    rintro e wD ⟨vD, rfl, ho, hb⟩
    rw [← Ed.out] at ho
    replace A := Aside0.mk (Kd.V_below A.out hb)
    replace B := Aside0.mk (Kd.V_below B.out hb)
    replace HB := Aside0.mk (below_step HB.out hb)
    clear hb
    have D := Aside0.mk (Kd.V_mono (ok' := fun _ => True) (Kd.N_V (base' := 0) ho) (fun _ _ => trivial))
    clear ho
    obtain ⟨AD, cD, eD, _, _⟩ := D.out
    subst eD
    go_wp2_with fail
    refine (Except_calls (fun _ => True) (fun _ => True) A0 c0 l0 A1 c1 l1 _ A.out B.out F0.out.len F0.out.row F0.out.max F1.out.len F1.out.row F1.out.max).mono ?_
    rintro e wX ⟨vX, rfl, ho, hb⟩
    rw [except_part, show (distinctL l0).filter (fun r => decide (kb r ∈ keysOf l1) == false) = exL l0 l1 from rfl, ← Ex.out] at ho
    replace A := Aside0.mk (Kd.V_below A.out hb)
    replace B := Aside0.mk (Kd.V_below B.out hb)
    replace D := Aside0.mk (Kd.V_below D.out hb)
    replace HB := Aside0.mk (below_step HB.out hb)
    clear hb
    have X := Aside0.mk (Kd.V_mono (ok' := fun _ => True) (Kd.N_V (base' := 0) ho) (fun _ _ => trivial))
    clear ho
    obtain ⟨AX, cX, eX, _, _⟩ := X.out
    subst eX
    go_wp2_with fail
    refine (Intersect_calls (fun _ => True) (fun _ => True) A0 c0 l0 A1 c1 l1 _ A.out B.out F0.out.len F0.out.row F0.out.max F1.out.len F1.out.row F1.out.max).mono ?_
    rintro e wY ⟨vY, rfl, ho, hb⟩
    rw [intersect_part, show (distinctL l0).filter (fun r => decide (kb r ∈ keysOf l1) == true) = inL l0 l1 from rfl, ← Ey.out] at ho
    replace A := Aside0.mk (Kd.V_below A.out hb)
    replace B := Aside0.mk (Kd.V_below B.out hb)
    replace D := Aside0.mk (Kd.V_below D.out hb)
    replace X := Aside0.mk (Kd.V_below X.out hb)
    replace HB := Aside0.mk (below_step HB.out hb)
    clear hb
    have Y := Aside0.mk (Kd.V_mono (ok' := fun _ => True) (Kd.N_V (base' := 0) ho) (fun _ _ => trivial))
    clear ho
    obtain ⟨AY, cY, eY, _, _⟩ := Y.out
    subst eY
    go_wp2_with fail
    refine (Union_calls (fun _ => True) (fun _ => True) A0 c0 l0 A1 c1 l1 _ A.out B.out F0.out.len F0.out.row F0.out.max F1.out.len F1.out.row F1.out.max).mono ?_
    rintro e wU ⟨vU, rfl, ho, hb⟩
    rw [← Eu.out] at ho
    replace A := Aside0.mk (Kd.V_below A.out hb)
    replace B := Aside0.mk (Kd.V_below B.out hb)
    replace D := Aside0.mk (Kd.V_below D.out hb)
    replace X := Aside0.mk (Kd.V_below X.out hb)
    replace Y := Aside0.mk (Kd.V_below Y.out hb)
    replace HB := Aside0.mk (below_step HB.out hb)
    clear hb
    have U := Aside0.mk (Kd.V_mono (ok' := fun _ => True) (Kd.N_V (base' := 0) ho) (fun _ _ => trivial))
    clear ho
    obtain ⟨AU, cU, eU, _, _⟩ := U.out
    subst eU
    have hs1 := HS1.out
    go_wp2
    go_loopg [40] d.length (fun kq v40 w' => ∃ (i : Nat), v40 = .int .i64 (i : Int) ∧ Aside0 (i + kq = d.length) ∧ Aside0 (Kd.V (Kd.slice 33 k33) 22 w' 0 (fun _ => True) (.slice A0 l0.length c0) l0) ∧ Aside0 (Kd.V (Kd.slice 33 k33) 22 w' 0 (fun _ => True) (.slice A1 l1.length c1) l1) ∧ Aside0 (Kd.V (Kd.slice 33 k33) 22 w' 0 (fun _ => True) (.slice AD d.length cD) d) ∧ Aside0 (Kd.V (Kd.slice 33 k33) 22 w' 0 (fun _ => True) (.slice AX x.length cX) x) ∧ Aside0 (Kd.V (Kd.slice 33 k33) 22 w' 0 (fun _ => True) (.slice AY y.length cY) y) ∧ Aside0 (Kd.V (Kd.slice 33 k33) 22 w' 0 (fun _ => True) (.slice AU u.length cU) u) ∧ Aside0 (Below w.heap.size w w'))
    case atStart => exact ⟨0, rfl, ⟨by simp⟩, A, B, D, X, Y, U, HB⟩
    case round =>
      clear A B D X Y U HB hs1
      obtain ⟨i, rfl, HI, A, B, D, X, Y, U, HB⟩ := hrel
      by_cases cc : (i : Int) < (d.length : Int)
      · have ccb : decide ((i : Int) < (d.length : Int)) = true := decide_eq_true cc
        have p0 : (0 : Int) ≤ i := by omega
        obtain ⟨k1, rfl⟩ : ∃ k1, gk = k1 + 1 := ⟨gk - 1, by have := HI.out; omega⟩
        obtain ⟨ad, Ar, cr, rfl, hx1, hrv⟩ := row_at D.out i cc
        have hmem := rd_in (l := d) (i := i) (by omega)
        have HP := Aside0.mk (P2.out _ hmem)
        have HGR := Aside0.mk (Fd.out.good _ hmem)
        have HW := Aside0.mk (show wrap64 ((i : Int) + 1) = ((i + 1 : Nat) : Int) from wrapN i (by have := Fd.out.len; omega))
        have HI' := Aside0.mk (show i + 1 + k1 = d.length by have := HI.out; omega)
        obtain ⟨r, hr⟩ : ∃ r, r = rd_L4 d (i : Int) := ⟨_, rfl⟩
        rw [← hr] at hx1 hrv HP HGR
        have R := Aside0.mk hrv
        clear hr hmem hrv
        by_cases hbb : kb r ∈ keysOf l1
        · go_wp2_with fail
          refine (In_calls Fx.out HGR.out false (decide_eq_false (fun q => (HP.out.1.1 q) hbb)) X.out R.out).mono ?_
          rintro e w_ ⟨rfl, hb⟩
          replace A := Aside0.mk (Kd.V_below A.out hb)
          replace B := Aside0.mk (Kd.V_below B.out hb)
          replace D := Aside0.mk (Kd.V_below D.out hb)
          replace X := Aside0.mk (Kd.V_below X.out hb)
          replace Y := Aside0.mk (Kd.V_below Y.out hb)
          replace U := Aside0.mk (Kd.V_below U.out hb)
          replace R := Aside0.mk (Kd.V_below R.out hb)
          replace HB := Aside0.mk (below_step HB.out hb)
          clear hb
          go_wp2_with fail
          refine (In_calls Fy.out HGR.out true (decide_eq_true (HP.out.2.1.2 hbb)) Y.out R.out).mono ?_
          rintro e w_ ⟨rfl, hb⟩
          replace A := Aside0.mk (Kd.V_below A.out hb)
          replace B := Aside0.mk (Kd.V_below B.out hb)
          replace D := Aside0.mk (Kd.V_below D.out hb)
          replace X := Aside0.mk (Kd.V_below X.out hb)
          replace Y := Aside0.mk (Kd.V_below Y.out hb)
          replace U := Aside0.mk (Kd.V_below U.out hb)
          replace R := Aside0.mk (Kd.V_below R.out hb)
          replace HB := Aside0.mk (below_step HB.out hb)
          clear hb
          go_wp2_with fail
          refine (In_calls Fy.out HGR.out true (decide_eq_true (HP.out.2.1.2 hbb)) Y.out R.out).mono ?_
          rintro e w_ ⟨rfl, hb⟩
          replace A := Aside0.mk (Kd.V_below A.out hb)
          replace B := Aside0.mk (Kd.V_below B.out hb)
          replace D := Aside0.mk (Kd.V_below D.out hb)
          replace X := Aside0.mk (Kd.V_below X.out hb)
          replace Y := Aside0.mk (Kd.V_below Y.out hb)
          replace U := Aside0.mk (Kd.V_below U.out hb)
          replace R := Aside0.mk (Kd.V_below R.out hb)
          replace HB := Aside0.mk (below_step HB.out hb)
          clear hb
          go_wp2_with fail
          refine (In_calls F1.out HGR.out true (decide_eq_true hbb) B.out R.out).mono ?_
          rintro e w_ ⟨rfl, hb⟩
          replace A := Aside0.mk (Kd.V_below A.out hb)
          replace B := Aside0.mk (Kd.V_below B.out hb)
          replace D := Aside0.mk (Kd.V_below D.out hb)
          replace X := Aside0.mk (Kd.V_below X.out hb)
          replace Y := Aside0.mk (Kd.V_below Y.out hb)
          replace U := Aside0.mk (Kd.V_below U.out hb)
          replace R := Aside0.mk (Kd.V_below R.out hb)
          replace HB := Aside0.mk (below_step HB.out hb)
          clear hb
          go_wp2_with fail
          refine (In_calls Fu.out HGR.out true (decide_eq_true HP.out.2.2) U.out R.out).mono ?_
          rintro e w_ ⟨rfl, hb⟩
          replace A := Aside0.mk (Kd.V_below A.out hb)
          replace B := Aside0.mk (Kd.V_below B.out hb)
          replace D := Aside0.mk (Kd.V_below D.out hb)
          replace X := Aside0.mk (Kd.V_below X.out hb)
          replace Y := Aside0.mk (Kd.V_below Y.out hb)
          replace U := Aside0.mk (Kd.V_below U.out hb)
          replace R := Aside0.mk (Kd.V_below R.out hb)
          replace HB := Aside0.mk (below_step HB.out hb)
          clear hb
          go_wp2_with fail
          go_roundg k1
          case measure => omega
          case rel => exact ⟨i + 1, by rw [HW.out], HI', A, B, D, X, Y, U, HB⟩
        · go_wp2_with fail
          refine (In_calls Fx.out HGR.out true (decide_eq_true (HP.out.1.2 hbb)) X.out R.out).mono ?_
          rintro e w_ ⟨rfl, hb⟩
          replace A := Aside0.mk (Kd.V_below A.out hb)
          replace B := Aside0.mk (Kd.V_below B.out hb)
          replace D := Aside0.mk (Kd.V_below D.out hb)
          replace X := Aside0.mk (Kd.V_below X.out hb)
          replace Y := Aside0.mk (Kd.V_below Y.out hb)
          replace U := Aside0.mk (Kd.V_below U.out hb)
          replace R := Aside0.mk (Kd.V_below R.out hb)
          replace HB := Aside0.mk (below_step HB.out hb)
          clear hb
          go_wp2_with fail
          refine (In_calls Fy.out HGR.out false (decide_eq_false (fun q => hbb (HP.out.2.1.1 q))) Y.out R.out).mono ?_
          rintro e w_ ⟨rfl, hb⟩
          replace A := Aside0.mk (Kd.V_below A.out hb)
          replace B := Aside0.mk (Kd.V_below B.out hb)
          replace D := Aside0.mk (Kd.V_below D.out hb)
          replace X := Aside0.mk (Kd.V_below X.out hb)
          replace Y := Aside0.mk (Kd.V_below Y.out hb)
          replace U := Aside0.mk (Kd.V_below U.out hb)
          replace R := Aside0.mk (Kd.V_below R.out hb)
          replace HB := Aside0.mk (below_step HB.out hb)
          clear hb
          go_wp2_with fail
          refine (In_calls Fy.out HGR.out false (decide_eq_false (fun q => hbb (HP.out.2.1.1 q))) Y.out R.out).mono ?_
          rintro e w_ ⟨rfl, hb⟩
          replace A := Aside0.mk (Kd.V_below A.out hb)
          replace B := Aside0.mk (Kd.V_below B.out hb)
          replace D := Aside0.mk (Kd.V_below D.out hb)
          replace X := Aside0.mk (Kd.V_below X.out hb)
          replace Y := Aside0.mk (Kd.V_below Y.out hb)
          replace U := Aside0.mk (Kd.V_below U.out hb)
          replace R := Aside0.mk (Kd.V_below R.out hb)
          replace HB := Aside0.mk (below_step HB.out hb)
          clear hb
          go_wp2_with fail
          refine (In_calls F1.out HGR.out false (decide_eq_false hbb) B.out R.out).mono ?_
          rintro e w_ ⟨rfl, hb⟩
          replace A := Aside0.mk (Kd.V_below A.out hb)
          replace B := Aside0.mk (Kd.V_below B.out hb)
          replace D := Aside0.mk (Kd.V_below D.out hb)
          replace X := Aside0.mk (Kd.V_below X.out hb)
          replace Y := Aside0.mk (Kd.V_below Y.out hb)
          replace U := Aside0.mk (Kd.V_below U.out hb)
          replace R := Aside0.mk (Kd.V_below R.out hb)
          replace HB := Aside0.mk (below_step HB.out hb)
          clear hb
          go_wp2_with fail
          refine (In_calls Fu.out HGR.out true (decide_eq_true HP.out.2.2) U.out R.out).mono ?_
          rintro e w_ ⟨rfl, hb⟩
          replace A := Aside0.mk (Kd.V_below A.out hb)
          replace B := Aside0.mk (Kd.V_below B.out hb)
          replace D := Aside0.mk (Kd.V_below D.out hb)
          replace X := Aside0.mk (Kd.V_below X.out hb)
          replace Y := Aside0.mk (Kd.V_below Y.out hb)
          replace U := Aside0.mk (Kd.V_below U.out hb)
          replace R := Aside0.mk (Kd.V_below R.out hb)
          replace HB := Aside0.mk (below_step HB.out hb)
          clear hb
          go_wp2_with fail
          go_roundg k1
          case measure => omega
          case rel => exact ⟨i + 1, by rw [HW.out], HI', A, B, D, X, Y, U, HB⟩
      · have ccb : decide ((i : Int) < (d.length : Int)) = false := decide_eq_false cc
        go_wp2
        clear HI
        go_loopg [69] u.length (fun kq v69 w' => ∃ (i : Nat), v69 = .int .i64 (i : Int) ∧ Aside0 (i + kq = u.length) ∧ Aside0 (Kd.V (Kd.slice 33 k33) 22 w' 0 (fun _ => True) (.slice A0 l0.length c0) l0) ∧ Aside0 (Kd.V (Kd.slice 33 k33) 22 w' 0 (fun _ => True) (.slice A1 l1.length c1) l1) ∧ Aside0 (Kd.V (Kd.slice 33 k33) 22 w' 0 (fun _ => True) (.slice AD d.length cD) d) ∧ Aside0 (Kd.V (Kd.slice 33 k33) 22 w' 0 (fun _ => True) (.slice AX x.length cX) x) ∧ Aside0 (Kd.V (Kd.slice 33 k33) 22 w' 0 (fun _ => True) (.slice AY y.length cY) y) ∧ Aside0 (Kd.V (Kd.slice 33 k33) 22 w' 0 (fun _ => True) (.slice AU u.length cU) u) ∧ Aside0 (Below w.heap.size w w'))
        case atStart => exact ⟨0, rfl, ⟨by simp⟩, A, B, D, X, Y, U, HB⟩
        case round =>
          clear A B D X Y U HB
          obtain ⟨j, rfl, HI, A, B, D, X, Y, U, HB⟩ := hrel
          by_cases c3 : (j : Int) < (u.length : Int)
          · have c3b : decide ((j : Int) < (u.length : Int)) = true := decide_eq_true c3
            have p0 : (0 : Int) ≤ j := by omega
            obtain ⟨k1, rfl⟩ : ∃ k1, gk = k1 + 1 := ⟨gk - 1, by have := HI.out; omega⟩
            obtain ⟨ad, Ar, cr, rfl, hx1, hrv⟩ := row_at U.out j c3
            have hmem := rd_in (l := u) (i := j) (by omega)
            have HP := Aside0.mk (P3.out _ hmem)
            have HGR := Aside0.mk (Fu.out.good _ hmem)
            have HW := Aside0.mk (show wrap64 ((j : Int) + 1) = ((j + 1 : Nat) : Int) from wrapN j (by have := Fu.out.len; omega))
            have HI' := Aside0.mk (show j + 1 + k1 = u.length by have := HI.out; omega)
            obtain ⟨r, hr⟩ : ∃ r, r = rd_L4 u (j : Int) := ⟨_, rfl⟩
            rw [← hr] at hx1 hrv HP HGR
            have R := Aside0.mk hrv
            clear hr hmem hrv
            by_cases hbb : kb r ∈ keysOf l0
            · go_wp2_with fail
              refine (In_calls F0.out HGR.out true (decide_eq_true hbb) A.out R.out).mono ?_
              rintro e w_ ⟨rfl, hb⟩
              replace A := Aside0.mk (Kd.V_below A.out hb)
              replace B := Aside0.mk (Kd.V_below B.out hb)
              replace D := Aside0.mk (Kd.V_below D.out hb)
              replace X := Aside0.mk (Kd.V_below X.out hb)
              replace Y := Aside0.mk (Kd.V_below Y.out hb)
              replace U := Aside0.mk (Kd.V_below U.out hb)
              replace R := Aside0.mk (Kd.V_below R.out hb)
              replace HB := Aside0.mk (below_step HB.out hb)
              clear hb
              go_wp2_with fail
              go_roundg k1
              case measure => omega
              case rel => exact ⟨j + 1, by rw [HW.out], HI', A, B, D, X, Y, U, HB⟩
            · go_wp2_with fail
              refine (In_calls F0.out HGR.out false (decide_eq_false hbb) A.out R.out).mono ?_
              rintro e w_ ⟨rfl, hb⟩
              replace A := Aside0.mk (Kd.V_below A.out hb)
              replace B := Aside0.mk (Kd.V_below B.out hb)
              replace D := Aside0.mk (Kd.V_below D.out hb)
              replace X := Aside0.mk (Kd.V_below X.out hb)
              replace Y := Aside0.mk (Kd.V_below Y.out hb)
              replace U := Aside0.mk (Kd.V_below U.out hb)
              replace R := Aside0.mk (Kd.V_below R.out hb)
              replace HB := Aside0.mk (below_step HB.out hb)
              clear hb
              go_wp2_with fail
              refine (In_calls F1.out HGR.out true (decide_eq_true (HP.out.resolve_left hbb)) B.out R.out).mono ?_
              rintro e w_ ⟨rfl, hb⟩
              replace A := Aside0.mk (Kd.V_below A.out hb)
              replace B := Aside0.mk (Kd.V_below B.out hb)
              replace D := Aside0.mk (Kd.V_below D.out hb)
              replace X := Aside0.mk (Kd.V_below X.out hb)
              replace Y := Aside0.mk (Kd.V_below Y.out hb)
              replace U := Aside0.mk (Kd.V_below U.out hb)
              replace R := Aside0.mk (Kd.V_below R.out hb)
              replace HB := Aside0.mk (below_step HB.out hb)
              clear hb
              go_wp2_with fail
              go_roundg k1
              case measure => omega
              case rel => exact ⟨j + 1, by rw [HW.out], HI', A, B, D, X, Y, U, HB⟩
          · have c3b : decide ((j : Int) < (u.length : Int)) = false := decide_eq_false c3
            have hs2 := HS2.out
            go_wp2_with fail
            refine (rows_Distinct_calls (fun _ => True) AU cU u _ U.out HU4.out Fu.out.row Fu.out.max).mono ?_
            rintro e w7 ⟨v7, rfl, ho, hb⟩
            rw [P4.out] at ho
            obtain ⟨A7, c7, e7⟩ := Kd.N_slice ho
            subst e7
            replace A := Aside0.mk (Kd.V_below A.out hb)
            replace B := Aside0.mk (Kd.V_below B.out hb)
            replace HB := Aside0.mk (below_step HB.out hb)
            clear hb ho D X Y U
            go_wp2_with fail
            refine (Except_calls (fun _ => True) (fun _ => True) A1 c1 l1 A0 c0 l0 _ B.out A.out F1.out.len F1.out.row F1.out.max F0.out.len F0.out.row F0.out.max).mono ?_
            rintro e w8 ⟨v8, rfl, ho, hb⟩
            rw [except_part, show (distinctL l1).filter (fun r => decide (kb r ∈ keysOf l0) == false) = exL l1 l0 from rfl, ← Ez.out] at ho
            obtain ⟨A8, c8, e8⟩ := Kd.N_slice ho
            subst e8
            replace HB := Aside0.mk (below_step HB.out hb)
            clear hb ho A B
            go_wp2_with fail
            refine (alive_calls _).mono ?_
            rintro e w9 ⟨rfl, hb⟩
            replace HB := Aside0.mk (below_step HB.out hb)
            clear hb
            go_wp2
            go_ret
            exact ⟨rfl, HB.out⟩
end Go.Proofs.Ythghflgmeepnlaa.Pa
namespace Go.Proofs.Ythghflgmeepnlaa.Pure
open Go.RowKit Go.Proofs.Ythghflgmeepnlaa.Pa
theorem RowsParts (l0 : List (List S33)) (h0 : l0.length ≤ maxLen) (g0 : ∀ x ∈ l0, x.length ≤ maxLen ∧ ∀ y ∈ x, okv y) (l1 : List (List S33)) (h1 : l1.length ≤ maxLen) (g1 : ∀ x ∈ l1, x.length ≤ maxLen ∧ ∀ y ∈ x, okv y) :
    ∃ k r, cordonlaw11_Few.f k [l0, l1] = some r ∧ (r = true → ∀ l ∈ [l0, l1], gL l) := RowsSets l0 h0 g0 l1 h1 g1
end Go.Proofs.Ythghflgmeepnlaa.Pure
