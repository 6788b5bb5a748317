/- Groups in plain terms. cordonlaw11.RowsGroups answers true. -/
import Derived.Test.YthghflgmeepnlaaR4
import Derived.Deep.QuietTactic
namespace Go.Proofs.Ythghflgmeepnlaa.Pa
open Go.RowKit Go.Proofs.YthghflgmeepnlaaW.PrintWords Go.Proofs.YthghflgmeepnlaaW.PrintLast Go.Proofs.YthghflgmeepnlaaW.PrintMore
set_option linter.unusedVariables false
set_option linter.unusedSimpArgs false

/-- What the groups of the first i keys are. -/
structure GrpInv (KS : List (List UInt8)) (i : Nat) (ks : List (List UInt8)) (gs : List (List Int)) : Prop where
  len : ks.length = gs.length
  nd : ks.Nodup
  ne : ∀ g ∈ gs, g ≠ []
  up : ∀ g ∈ gs, g.Pairwise (· < ·)
  el : ∀ (j : Nat) (g : List Int) (k : List UInt8), gs[j]? = some g → ks[j]? = some k → ∀ e ∈ g, ∃ n : Nat, e = (n : Int) ∧ n < i ∧ KS[n]? = some k
  hd : ∀ (j j' : Nat) (g g' : List Int), j < j' → gs[j]? = some g → gs[j']? = some g' → g.headD 0 < g'.headD 0
  sum : (gs.map List.length).sum = i

theorem headD_app {g : List Int} (h : g ≠ []) (x : Int) : (g ++ [x]).headD 0 = g.headD 0 := by
  cases g with
  | nil => exact absurd rfl h
  | cons a g => rfl
theorem headD_mem {g : List Int} (h : g ≠ []) : g.headD 0 ∈ g := by
  cases g with
  | nil => exact absurd rfl h
  | cons a g => simp
theorem sum_set (gs : List (List Int)) (q : Nat) (g g' : List Int) (h : gs[q]? = some g) (hl : g'.length = g.length + 1) : ((gs.set q g').map List.length).sum = (gs.map List.length).sum + 1 := by
  induction gs generalizing q with
  | nil => simp at h
  | cons a gs ih =>
    cases q with
    | zero => simp at h; subst h; simp [hl]; omega
    | succ q =>
      have h' : gs[q]? = some g := by simpa using h
      rw [List.set_cons_succ, List.map_cons, List.sum_cons, ih q h', List.map_cons, List.sum_cons]; omega

theorem grp_step {KS : List (List UInt8)} {i : Nat} {ks : List (List UInt8)} {gs : List (List Int)} (h : GrpInv KS i ks gs) {k : List UInt8} (hk : KS[i]? = some k) : GrpInv KS (i + 1) (grpStep (ks, gs) k i).1 (grpStep (ks, gs) k i).2 := by
  unfold grpStep
  by_cases c : k ∈ ks
  · rw [if_pos c]
    have hq : ks.idxOf k < ks.length := List.idxOf_lt_length_of_mem c
    obtain ⟨q, hqe⟩ : ∃ q, q = ks.idxOf k := ⟨_, rfl⟩
    have hkq : ks[q]? = some k := by rw [hqe, List.getElem?_eq_getElem hq, List.getElem_idxOf]
    rw [← hqe] at hq
    have hgq : q < gs.length := by rw [← h.len]; exact hq
    obtain ⟨g, hg⟩ : ∃ g, gs[q]? = some g := ⟨gs[q], List.getElem?_eq_getElem hgq⟩
    have hgm : g ∈ gs := List.mem_of_getElem? hg
    have hgD : gs.getD q [] = g := by rw [List.getD_eq_getElem?_getD, hg]; rfl
    rw [← hqe]
    simp only [hgD]
    have get : ∀ j, (gs.set q (g ++ [(i : Int)]))[j]? = if j = q then some (g ++ [(i : Int)]) else gs[j]? := by
      intro j
      by_cases e : j = q
      · subst e; rw [if_pos rfl, List.getElem?_set_self hgq]
      · rw [if_neg e, List.getElem?_set_ne (Ne.symm e)]
    refine ⟨by rw [List.length_set]; exact h.len, h.nd, ?_, ?_, ?_, ?_, ?_⟩
    · intro g' hg'
      rcases List.mem_or_eq_of_mem_set hg' with hg' | hg'
      · exact h.ne g' hg'
      · rw [hg']; simp
    · intro g' hg'
      rcases List.mem_or_eq_of_mem_set hg' with hg' | hg'
      · exact h.up g' hg'
      · rw [hg', List.pairwise_append]
        refine ⟨h.up g hgm, by simp, fun a ha b hb => ?_⟩
        obtain ⟨n, e, hn, _⟩ := h.el q g k hg hkq a ha
        rw [List.mem_singleton.1 hb, e]
        omega
    · intro j g' k' hg' hk' e he
      rw [get] at hg'
      by_cases ej : j = q
      · rw [if_pos ej] at hg'
        injection hg' with hg'
        subst hg'
        rw [ej, hkq] at hk'
        injection hk' with hk'
        subst hk'
        rcases List.mem_append.1 he with he | he
        · obtain ⟨n, e1, hn, e2⟩ := h.el q g k hg hkq e he
          exact ⟨n, e1, by omega, e2⟩
        · exact ⟨i, List.mem_singleton.1 he, by omega, hk⟩
      · rw [if_neg ej] at hg'
        obtain ⟨n, e1, hn, e2⟩ := h.el j g' k' hg' hk' e he
        exact ⟨n, e1, by omega, e2⟩
    · intro j j' a b hjj ha hb
      have fix : ∀ (j : Nat) (a : List Int), (gs.set q (g ++ [(i : Int)]))[j]? = some a → ∃ a', gs[j]? = some a' ∧ a.headD 0 = a'.headD 0 := by
        intro j a ha
        rw [get] at ha
        by_cases e : j = q
        · rw [if_pos e] at ha
          injection ha with ha
          exact ⟨g, by rw [e]; exact hg, by rw [← ha]; exact headD_app (h.ne g hgm) _⟩
        · rw [if_neg e] at ha
          exact ⟨a, ha, rfl⟩
      obtain ⟨a', ha', ea⟩ := fix j a ha
      obtain ⟨b', hb', eb⟩ := fix j' b hb
      rw [ea, eb]
      exact h.hd j j' a' b' hjj ha' hb'
    · rw [sum_set gs q g _ hg (by simp), h.sum]
  · rw [if_neg c]
    have getg : ∀ j a, (gs ++ [[(i : Int)]])[j]? = some a → (j < gs.length ∧ gs[j]? = some a) ∨ (j = gs.length ∧ a = [(i : Int)]) := by
      intro j a ha
      rcases Nat.lt_or_ge j gs.length with hj | hj
      · rw [List.getElem?_append_left hj] at ha; exact .inl ⟨hj, ha⟩
      · rw [List.getElem?_append_right hj] at ha
        obtain ⟨h1, h2⟩ := List.getElem?_eq_some_iff.1 ha
        simp at h1
        have e0 : j - gs.length = 0 := by omega
        simp [e0] at h2
        exact .inr ⟨by omega, h2.symm⟩
    have lt_i : ∀ (j : Nat) (a : List Int), gs[j]? = some a → a.headD 0 < (i : Int) := by
      intro j a ha
      have hj := (List.getElem?_eq_some_iff.1 ha).1
      have hjk : j < ks.length := by rw [h.len]; exact hj
      obtain ⟨n, e1, hn, _⟩ := h.el j a ks[j] ha (List.getElem?_eq_getElem hjk) _ (headD_mem (h.ne a (List.mem_of_getElem? ha)))
      omega
    refine ⟨by simp [h.len], ?_, ?_, ?_, ?_, ?_, ?_⟩
    · rw [List.nodup_append]
      refine ⟨h.nd, by simp, fun a ha b hb => ?_⟩
      rw [List.mem_singleton.1 hb]
      exact fun e => c (e ▸ ha)
    · intro g hg
      rcases List.mem_append.1 hg with hg | hg
      · exact h.ne g hg
      · rw [List.mem_singleton.1 hg]; simp
    · intro g hg
      rcases List.mem_append.1 hg with hg | hg
      · exact h.up g hg
      · rw [List.mem_singleton.1 hg]; simp
    · intro j g' k' hg' hk' e he
      rcases getg j g' hg' with ⟨hj, h1⟩ | ⟨hj, h1⟩
      · rw [List.getElem?_append_left (by rw [h.len]; exact hj)] at hk'
        obtain ⟨n, e1, hn, e2⟩ := h.el j g' k' h1 hk' e he
        exact ⟨n, e1, by omega, e2⟩
      · rw [hj, List.getElem?_append_right (by rw [h.len]; omega), h.len, Nat.sub_self] at hk'
        simp at hk'
        rw [h1] at he
        rw [← hk']
        exact ⟨i, List.mem_singleton.1 he, by omega, hk⟩
    · intro j j' a b hjj ha hb
      rcases getg j a ha with ⟨hj, h1⟩ | ⟨hj, h1⟩
      · rcases getg j' b hb with ⟨hj', h2⟩ | ⟨hj', h2⟩
        · exact h.hd j j' a b hjj h1 h2
        · rw [h2]; exact lt_i j a h1
      · rcases getg j' b hb with ⟨hj', h2⟩ | ⟨hj', h2⟩ <;> omega
    · simp [h.sum]
theorem grp_go (KS : List (List UInt8)) : ∀ (l : List (List UInt8)) (i : Nat) (ks : List (List UInt8)) (gs : List (List Int)), l = KS.drop i → i + l.length = KS.length → GrpInv KS i ks gs → GrpInv KS KS.length (grpGo i (ks, gs) l).1 (grpGo i (ks, gs) l).2
  | [], i, ks, gs, _, hl, h => by
    have : i = KS.length := by simpa using hl
    rw [← this]
    exact h
  | k :: l, i, ks, gs, he, hl, h => by
    have hi : i < KS.length := by simp at hl; omega
    rw [List.drop_eq_getElem_cons hi] at he
    injection he with he1 he2
    have hs := grp_step h (k := k) (by rw [he1]; exact List.getElem?_eq_getElem hi)
    exact grp_go KS l (i + 1) _ _ he2 (by simp at hl; omega) hs
/-- The groups of rows. -/
theorem grp_all (l : List (List S33)) : ∃ ks, GrpInv (keysOf l) l.length ks (groupsL l) := by
  have := grp_go (keysOf l) (keysOf l) 0 [] [] (by simp) (by simp) ⟨rfl, by simp, by simp, by simp, by simp, by simp, by simp⟩
  refine ⟨(grpGo 0 ([], []) (keysOf l)).1, ?_⟩
  rw [show l.length = (keysOf l).length by unfold keysOf; simp]
  exact this
end Go.Proofs.Ythghflgmeepnlaa.Pa
namespace Go.Proofs.Ythghflgmeepnlaa.Pa
open Go.RowKit Go.Proofs.YthghflgmeepnlaaW.PrintWords Go.Proofs.YthghflgmeepnlaaW.PrintLast Go.Proofs.YthghflgmeepnlaaW.PrintMore
set_option linter.unusedVariables false
set_option linter.unusedSimpArgs false

theorem grp_at {w : World} {gs : List (List Int)} {A : Option Addr} (hV : Kd.C (Kd.slice 3 (Kd.int .i64)) w A gs.length gs) (i : Nat) (hi : i < gs.length) :
    ∃ (ad : Addr) (A1 : Option Addr) (c1 : Nat), A = some ad ∧ w.cell? (ad.add i) = some (.slice A1 (gs.getD i []).length c1) ∧ (Kd.int .i64).C w A1 (gs.getD i []).length (gs.getD i []) := by
  obtain ⟨ad, c, e, _, hK, hc0⟩ := Kd.C_get hV ([] : List Int) (i : Int) (by omega) (by omega)
  have hc : ∀ j u, c[j]? = some u → w.cell? (ad.add ((i : Int).toNat * 1 + j)) = some u := hc0
  rw [Int.toNat_natCast] at hK hc
  obtain ⟨A1, c1, rfl, l1, g1⟩ := hK
  exact ⟨ad, A1, c1, e, by have hq := hc 0 _ rfl; rwa [Nat.mul_one, Nat.add_zero] at hq, g1⟩
theorem int_at {w : World} {g : List Int} {A : Option Addr} (hV : (Kd.int .i64).C w A g.length g) (k : Nat) (hk : k < g.length) {m : Nat} (hm : g.getD k 0 = (m : Int)) :
    ∃ ad, A = some ad ∧ w.cell? (ad.add k) = some (.int .i64 (m : Int)) := by
  obtain ⟨ad, e, h⟩ := Kd.at_int hV (k : Int) (by omega) (by omega)
  rw [Int.toNat_natCast] at h
  refine ⟨ad, e, ?_⟩
  rw [h, ← hm]
  unfold rd
  rw [Int.toNat_natCast]
theorem row_atC {w : World} {l0 : List (List S33)} {A0 : Option Addr} (hV : Kd.C (Kd.slice 33 k33) w A0 l0.length l0) (i : Nat) (hi : i < l0.length) :
    ∃ (ad : Addr) (A1 : Option Addr) (c1 : Nat), A0 = some ad ∧ w.cell? (ad.add i) = some (.slice A1 (rd_L4 l0 (i : Int)).length c1) ∧ (rd_L4 l0 (i : Int)).length ≤ c1 ∧ Kd.C k33 w A1 (rd_L4 l0 (i : Int)).length (rd_L4 l0 (i : Int)) := by
  obtain ⟨ad, A1, c1, e1, hx1, hl1, hi1⟩ := at_L4 hV (i : Int) (by omega) (by omega)
  rw [Int.toNat_natCast] at hx1
  exact ⟨ad, A1, c1, e1, hx1, hl1, hi1⟩
theorem addr0 (ad : Addr) : ad.add 0 = ad := by
  cases ad with
  | mk b o e => cases e <;> simp [Addr.add]
/-- R.Same at two rows, whatever has been drawn. -/
theorem same_quiet {W : World} {a b : List S33} {A1 A2 : Option Addr} {c1 c2 : Nat} (h1 : Kd.C k33 W A1 a.length a) (l1 : a.length ≤ c1) (h2 : Kd.C k33 W A2 b.length b) (l2 : b.length ≤ c2) (ga : gR a) (gb : gR b) (v : Bool) (hv : decide (kb a = kb b) = v) (n : Nat) :
    Calls Try.prog 49 #[.slice A1 a.length c1, .slice A2 b.length c2] (W.drewN n) fun e w' => e = .returned (.bool v) ∧ ∃ m, w' = (W.drewN n).drewN m :=
  (cordonref02_Same.calls (0 + 61) A1 c1 a A2 c2 b v (W.drewN n) (Kd.C_drewN h1 n) l1 (Kd.C_drewN h2 n) l2 (by rw [same_key ga gb, hv])).mono fun e w' ⟨he, nd, hw⟩ => ⟨he, nd, hw⟩

/-- What the walk asks of the groups. -/
structure GrpOk (l : List (List S33)) (gs : List (List Int)) : Prop where
  head : ∀ i, i < gs.length → ∃ h : Nat, (gs.getD i []).getD 0 0 = (h : Int) ∧ h < l.length ∧ 0 < (gs.getD i []).length
  rise : ∀ i, i + 1 < gs.length → (gs.getD i []).getD 0 0 < (gs.getD (i + 1) []).getD 0 0
  elem : ∀ i k, i < gs.length → k < (gs.getD i []).length → ∃ m : Nat, (gs.getD i []).getD k 0 = (m : Int) ∧ m < l.length
  same : ∀ i k (h m : Nat), i < gs.length → k < (gs.getD i []).length → (gs.getD i []).getD 0 0 = (h : Int) → (gs.getD i []).getD k 0 = (m : Int) → kb (rd_L4 l (h : Int)) = kb (rd_L4 l (m : Int))
  up : ∀ i k, i < gs.length → k + 1 < (gs.getD i []).length → (gs.getD i []).getD k 0 < (gs.getD i []).getD (k + 1) 0
  diff : ∀ i j (h m : Nat), j < i → i < gs.length → (gs.getD j []).getD 0 0 = (h : Int) → (gs.getD i []).getD 0 0 = (m : Int) → ¬ kb (rd_L4 l (h : Int)) = kb (rd_L4 l (m : Int))
  sum : (gs.map List.length).sum = l.length
theorem key_at {l : List (List S33)} {n : Nat} {k : List UInt8} (h : (keysOf l)[n]? = some k) : kb (rd_L4 l (n : Int)) = k := by
  unfold keysOf at h
  rw [List.getElem?_map] at h
  obtain ⟨r, h1, h2⟩ := Option.map_eq_some_iff.1 h
  have e : rd_L4 l (n : Int) = r := by unfold rd_L4; rw [Int.toNat_natCast, List.getD_eq_getElem?_getD, h1]; rfl
  rw [e]; exact h2
theorem grp_ok (l : List (List S33)) : GrpOk l (groupsL l) := by
  obtain ⟨ks, h⟩ := grp_all l
  have get : ∀ i, i < (groupsL l).length → (groupsL l)[i]? = some ((groupsL l).getD i []) := fun i hi => by rw [List.getD_eq_getElem?_getD, List.getElem?_eq_getElem hi]; rfl
  have getk : ∀ i, i < (groupsL l).length → ∃ k, ks[i]? = some k := fun i hi => ⟨_, List.getElem?_eq_getElem (by rw [h.len]; exact hi)⟩
  have mem : ∀ i, i < (groupsL l).length → (groupsL l).getD i [] ∈ groupsL l := fun i hi => List.mem_of_getElem? (get i hi)
  have pos : ∀ i, i < (groupsL l).length → 0 < ((groupsL l).getD i []).length := fun i hi => List.length_pos_iff.2 (h.ne _ (mem i hi))
  have gm : ∀ (g : List Int) k, k < g.length → g.getD k 0 ∈ g := fun g k hk => by rw [List.getD_eq_getElem?_getD, List.getElem?_eq_getElem hk]; exact List.getElem_mem hk
  have hd0 : ∀ g : List Int, g.getD 0 0 = g.headD 0 := fun g => by cases g <;> rfl
  have el : ∀ i k, i < (groupsL l).length → k < ((groupsL l).getD i []).length → ∃ (m : Nat) (key : List UInt8), ((groupsL l).getD i []).getD k 0 = (m : Int) ∧ m < l.length ∧ ks[i]? = some key ∧ kb (rd_L4 l (m : Int)) = key := fun i k hi hk => by
    obtain ⟨key, hkey⟩ := getk i hi
    obtain ⟨m, e1, hm, e2⟩ := h.el i _ key (get i hi) hkey _ (gm _ k hk)
    exact ⟨m, key, e1, hm, hkey, key_at e2⟩
  refine ⟨fun i hi => ?_, fun i hi => ?_, fun i k hi hk => ?_, fun i k a m hi hk ha hm => ?_, fun i k hi hk => ?_, fun i j a m hj hi ha hm => ?_, h.sum⟩
  · obtain ⟨m, _, e1, hm, _⟩ := el i 0 hi (pos i hi)
    exact ⟨m, e1, hm, pos i hi⟩
  · rw [hd0, hd0]
    exact h.hd i (i + 1) _ _ (by omega) (get i (by omega)) (get (i + 1) hi)
  · obtain ⟨m, _, e1, hm, _⟩ := el i k hi hk
    exact ⟨m, e1, hm⟩
  · obtain ⟨m1, k1, e1, _, h1, h2⟩ := el i 0 hi (pos i hi)
    obtain ⟨m2, k2, e2, _, h3, h4⟩ := el i k hi hk
    rw [ha] at e1
    rw [hm] at e2
    have ea : a = m1 := by omega
    have em : m = m2 := by omega
    rw [ea, em, h2, h4]
    rw [h1] at h3
    injection h3
  · have := (List.pairwise_iff_getElem.1 (h.up _ (mem i hi))) k (k + 1) (by omega) hk (by omega)
    have gE : ∀ (g : List Int) (k : Nat) (hk : k < g.length), g.getD k 0 = g[k] := fun g k hk => by rw [List.getD_eq_getElem?_getD, List.getElem?_eq_getElem hk]; rfl
    rw [gE _ k (by omega), gE _ (k + 1) hk]
    exact this
  · obtain ⟨m1, k1, e1, _, h1, h2⟩ := el j 0 (by omega) (pos j (by omega))
    obtain ⟨m2, k2, e2, _, h3, h4⟩ := el i 0 hi (pos i hi)
    rw [ha] at e1
    rw [hm] at e2
    have ea : a = m1 := by omega
    have em : m = m2 := by omega
    rw [ea, em, h2, h4]
    intro e
    rw [e, ← h3] at h1
    have := (List.getElem?_inj (by rw [h.len]; omega) h.nd).1 h1
    omega

set_option maxHeartbeats 16000000 in
set_option maxRecDepth 1000000 in
theorem RowsGroups.calls (A0 : Option Addr) (c0 : Nat) (l0 : List (List S33)) (w : World) (hr0 : Kd.C (Kd.slice 33 k33) w A0 l0.length l0) (hc0 : l0.length ≤ c0)
    (hp : ∃ k r, cordonlaw11_Few.f k [l0] = some r ∧ (r = true → ∀ l ∈ [l0], gL l)) :
    Calls Try.prog 15 #[.slice A0 l0.length c0] w fun e w' => e = .returned (.bool true) ∧ Below w.heap.size w w' := by
  obtain ⟨k, r, hk, hg⟩ := hp
  have A := Aside0.mk (C_V hr0 hc0)
  have HB := Aside0.mk (Below.refl w.heap.size w)
  have HG := Aside0.mk hg
  have HF := Aside0.mk (Few_calls hk (V_lit (Kd.slice 22 (Kd.slice 33 k33)) 58 (W := w) (xs := [l0]) (inner := [.slice A0 l0.length c0]) (Reps.one (Kd.FK_slice_mk (Kd.V_reads' A.out).2.1 (Kd.V_F A.out)) (Reps.none _ _)) (by simp)))
  clear hr0 hc0 hk hg
  go_enter Try.func15, Try.ntmps15
  go_wp2_with fail
  refine HF.out.mono ?_
  rintro e w0 ⟨rfl, hb0⟩
  have hb : Below w.heap.size w w0 := below_step (below_alloc (Below.refl w.heap.size w) _) hb0
  clear hb0 HF
  replace A := Aside0.mk (Kd.V_below A.out hb)
  replace HB := Aside0.mk (below_step HB.out hb)
  clear hb
  cases r with
  | false =>
    go_wp2_with fail
    refine (alive_calls _).mono ?_
    rintro e w1 ⟨rfl, hb⟩
    replace HB := Aside0.mk (below_step HB.out hb)
    clear hb
    go_wp2
    go_ret
    exact ⟨rfl, HB.out⟩
  | true =>
    have F0 := Aside0.mk (gL_fine (HG.out rfl l0 (by simp)))
    clear HG
    go_wp2_with fail
    refine (Groups_calls (fun _ => True) A0 c0 l0 _ A.out F0.out.len F0.out.row F0.out.max).mono ?_
    rintro e wG ⟨vG, rfl, ho, hb⟩
    obtain ⟨gs, hgs⟩ : ∃ gs, gs = groupsL l0 := ⟨_, rfl⟩
    have OK := Aside0.mk (show GrpOk l0 gs by rw [hgs]; exact grp_ok l0)
    rw [← hgs] at ho
    clear hgs
    replace HB := Aside0.mk (below_step HB.out hb)
    have KC := Aside0.mk (Kd.V_reads' (Kd.V_below A.out hb)).2.2
    obtain ⟨AL, cL, eL, hcl, hL⟩ := Kd.S_reads ho
    have HCL := Aside0.mk hcl
    clear hcl
    subst eL
    have LC := Aside0.mk hL
    have GN := Aside0.mk (show gs.length < 2000000000 by
      have h1 := OK.out.sum
      have h2 := F0.out.len
      have h3 : ∀ (x : List (List Int)), (∀ g ∈ x, 0 < g.length) → x.length ≤ (x.map List.length).sum := fun x => by
        induction x with
        | nil => intro _; simp
        | cons a x ih => intro h; have h4 := h a (by simp); have h5 := ih (fun g hg => h g (by simp [hg])); simp; omega
      have h6 := h3 gs (fun g hg => by
        obtain ⟨i, hi, e⟩ := List.getElem_of_mem hg
        obtain ⟨_, _, _, hp⟩ := OK.out.head i hi
        rw [List.getD_eq_getElem?_getD, List.getElem?_eq_getElem hi] at hp
        rw [← e]; exact hp)
      omega)
    clear hb ho hL A
    go_wp2
    go_loopg [4, 20] gs.length (fun kq v4 v20 w' => ∃ (i : Nat), v20 = .int .i64 (i : Int) ∧ v4 = .int .i64 (((gs.take i).map List.length).sum : Nat) ∧ Aside0 (i + kq = gs.length) ∧ Aside0 (Kd.C (Kd.slice 33 k33) w' A0 l0.length l0) ∧ Aside0 (Kd.C (Kd.slice 3 (Kd.int .i64)) w' AL gs.length gs) ∧ Aside0 (Below w.heap.size w w'))
    case atStart => exact ⟨0, rfl, by simp, ⟨by simp⟩, KC, LC, HB⟩
    case round =>
      clear KC LC HB
      obtain ⟨i, rfl, rfl, HI, KC, LC, HB⟩ := hrel
      by_cases ci : (i : Int) < (gs.length : Int)
      · have cib : decide ((i : Int) < (gs.length : Int)) = true := decide_eq_true ci
        have p0 : (0 : Int) ≤ i := by omega
        have hil : i < gs.length := by omega
        obtain ⟨ko, rfl⟩ : ∃ ko, gk = ko + 1 := ⟨gk - 1, by have := HI.out; omega⟩
        obtain ⟨h0, eh0, hh0, hpos⟩ := OK.out.head i hil
        obtain ⟨adL, Ag, cg, rfl, hxL, hG⟩ := grp_at LC.out i hil
        obtain ⟨adg, rfl, hxg⟩ := int_at hG 0 hpos eh0
        have LS := Aside0.mk (show (((gs.take i).map List.length).sum : Nat) + (gs.getD i []).length = ((gs.take (i + 1)).map List.length).sum ∧ ((gs.take (i + 1)).map List.length).sum ≤ l0.length by
          have e : gs.take (i + 1) = gs.take i ++ [gs.getD i []] := by rw [List.take_add_one, List.getD_eq_getElem?_getD, List.getElem?_eq_getElem hil]; rfl
          refine ⟨by rw [e]; simp, ?_⟩
          have h1 := OK.out.sum
          rw [← List.take_append_drop (i + 1) gs, List.map_append, List.sum_append] at h1
          omega)
        have hW := Aside0.mk (show wrap64 ((i : Int) + 1) = ((i + 1 : Nat) : Int) by have := GN.out; unfold wrap64; omega)
        obtain ⟨S, hS⟩ : ∃ S, S = ((gs.take i).map List.length).sum := ⟨_, rfl⟩
        obtain ⟨g, hgE⟩ : ∃ g, g = gs.getD i [] := ⟨_, rfl⟩
        rw [← hS, ← hgE] at LS
        rw [← hS]
        rw [← hgE] at hxL hpos eh0 hG
        have GE := Aside0.mk hgE
        have SE := Aside0.mk hS
        have HC := Aside0.mk hG
        have EH := Aside0.mk eh0
        have PP := Aside0.mk (⟨hh0, hpos, hil⟩ : h0 < l0.length ∧ 0 < g.length ∧ i < gs.length)
        have HX := Aside0.mk hxg
        rw [addr0] at hxg
        clear hgE hS eh0 hG hh0
        have gpos : ((g.length : Int) == 0) = false := beq_eq_false_iff_ne.mpr (by omega)
        have gposN : (g.length == 0) = false := beq_eq_false_iff_ne.mpr (by omega)
        have gzb : decide ((0 : Int) < (g.length : Int)) = true := decide_eq_true (by omega)
        have gz : (0 : Int) < (g.length : Int) := by omega
        by_cases cz : 0 < i
        · have z1 : decide ((i : Int) > 0) = true := decide_eq_true (by omega)
          have z2 : decide (0 < i) = true := decide_eq_true cz
          have z3 : (0 : Int) < (i : Int) := by omega
          obtain ⟨ip, hip⟩ : ∃ ip, ip + 1 = i := ⟨i - 1, by omega⟩
          obtain ⟨hq, ehq, hhq, hqpos⟩ := OK.out.head ip (by omega)
          have hrise := OK.out.rise ip (by omega)
          rw [hip, ← GE.out, EH.out, ehq] at hrise
          obtain ⟨adL', Aq, cq, eL', hxq, hGq⟩ := grp_at LC.out ip (by omega)
          cases eL'
          obtain ⟨adq, rfl, hxq0⟩ := int_at hGq 0 hqpos ehq
          obtain ⟨gq, hgq⟩ : ∃ g, g = gs.getD ip [] := ⟨_, rfl⟩
          rw [← hgq] at hxq hqpos
          rw [addr0] at hxq0
          have q1 : wrap64 ((i : Int) - 1) = (ip : Int) := by have := GN.out; unfold wrap64; omega
          have q2 : IntKind.i64.wrap ((i : Int) - 1) = (ip : Int) := by have := GN.out; rw [IntKind.wrap_i64]; omega
          have q3 : (ip : Int) < (gs.length : Int) := by omega
          have q4 : (0 : Int) ≤ (ip : Int) := by omega
          have q5 : (0 : Int) < (gq.length : Int) := by omega
          have q6 : decide ((hq : Int) ≥ (h0 : Int)) = false := decide_eq_false (by omega)
          have q7 : ¬ (h0 : Int) ≤ (hq : Int) := by omega
          have q8 : ¬ h0 ≤ hq := by omega
          clear hgq hGq ehq hhq hqpos hrise hip
          go_wp2_with fail
          go_quiet (fail)
          have KC1 := Aside0.mk (Kd.C_drewN KC.out nq)
          have LC1 := Aside0.mk (Kd.C_drewN LC.out nq)
          have HC1 := Aside0.mk (Kd.C_drewN HC.out nq)
          have HB1 := Aside0.mk (pw_below_drewN HB.out nq)
          clear z3 q1 q2 q3 q4 q5 q6 q7 q8 hxq hxq0
          clear KC LC HC HB hxg hxL HX gpos gposN gzb z1 z2
          generalize wr.drewN nq = W1 at KC1 LC1 HC1 HB1 ⊢
          go_wp2_with fail
          go_loopg [47] g.length (fun kq v47 w' => ∃ (k : Nat), v47 = .int .i64 (k : Int) ∧ Aside0 (k + kq = g.length) ∧ Aside0 (Kd.C (Kd.slice 33 k33) w' A0 l0.length l0) ∧ Aside0 (Kd.C (Kd.slice 3 (Kd.int .i64)) w' (some adL) gs.length gs) ∧ Aside0 ((Kd.int .i64).C w' (some adg) g.length g) ∧ Aside0 (Below w.heap.size w w'))
          case atStart => exact ⟨0, rfl, ⟨by simp⟩, KC1, LC1, HC1, HB1⟩
          case round =>
            clear KC1 LC1 HC1 HB1
            obtain ⟨k, rfl, HK, KC, LC, HC, HB⟩ := hrel
            by_cases ck : (k : Int) < (g.length : Int)
            · have ckb : decide ((k : Int) < (g.length : Int)) = true := decide_eq_true ck
              have pk : (0 : Int) ≤ k := by omega
              have hkl : k < g.length := by omega
              obtain ⟨k1, rfl⟩ : ∃ k1, gk = k1 + 1 := ⟨gk - 1, by have := HK.out; omega⟩
              have hil := PP.out.2.2
              obtain ⟨m, em, hml⟩ := OK.out.elem i k hil (by rw [← GE.out]; exact hkl)
              have hsame := OK.out.same i k h0 m hil (by rw [← GE.out]; exact hkl) (by rw [← GE.out]; exact EH.out) em
              rw [← GE.out] at em
              obtain ⟨adg', eg', hxm⟩ := int_at HC.out k hkl em
              cases eg'
              obtain ⟨adg', eg', hxg⟩ := int_at HC.out 0 PP.out.2.1 EH.out
              cases eg'
              rw [addr0] at hxg
              obtain ⟨ad0, Ah, ch, eA0, hxh, hlh, hCh⟩ := row_atC KC.out h0 PP.out.1
              obtain ⟨ad0', Am, cm, eA0', hxr, hlm, hCm⟩ := row_atC KC.out m hml
              rw [eA0] at eA0'
              cases eA0'
              have HS := Aside0.mk (same_quiet hCh hlh hCm hlm (F0.out.good _ (rd_in PP.out.1)) (F0.out.good _ (rd_in hml)) true (decide_eq_true hsame))
              obtain ⟨rh, hrh⟩ : ∃ r, r = rd_L4 l0 (h0 : Int) := ⟨_, rfl⟩
              obtain ⟨rm, hrm⟩ : ∃ r, r = rd_L4 l0 (m : Int) := ⟨_, rfl⟩
              rw [← hrh] at hxh HS
              rw [← hrm] at hxr HS
              have HW2 := Aside0.mk (show wrap64 ((k : Int) + 1) = ((k + 1 : Nat) : Int) by have h1 := LS.out; have h2 := F0.out.len; unfold wrap64; omega)
              have m1 : decide ((m : Int) < 0) = false := decide_eq_false (by omega)
              have m2 : decide ((m : Int) ≥ (l0.length : Int)) = false := decide_eq_false (by omega)
              have m3 : (m : Int) < (l0.length : Int) := by omega
              have m4 : (0 : Int) ≤ (m : Int) := by omega
              have m5 : ¬ (m : Int) < 0 := by omega
              have m6 : ¬ l0.length ≤ m := by omega
              have m7 : (h0 : Int) < (l0.length : Int) := by have := PP.out.1; omega
              have m8 : (0 : Int) ≤ (h0 : Int) := by omega
              clear hrh hrm hsame hCh hCm hlh hlm hml hkl hil
              subst eA0
              by_cases kz : 0 < k
              · have z1 : decide ((k : Int) > 0) = true := decide_eq_true (by omega)
                have z2 : decide (0 < k) = true := decide_eq_true kz
                have z3 : (0 : Int) < (k : Int) := by omega
                obtain ⟨kp, hkp⟩ : ∃ kp, kp + 1 = k := ⟨k - 1, by omega⟩
                obtain ⟨mp, emp, _⟩ := OK.out.elem i kp PP.out.2.2 (by rw [← GE.out]; omega)
                have hup := OK.out.up i kp PP.out.2.2 (by rw [← GE.out]; omega)
                rw [← GE.out] at emp
                rw [← GE.out, hkp, em, emp] at hup
                obtain ⟨adg', eg', hxp⟩ := int_at HC.out kp (by omega) emp
                cases eg'
                have q1 : wrap64 ((k : Int) - 1) = (kp : Int) := by have h1 := LS.out; have h2 := F0.out.len; unfold wrap64; omega
                have q2 : IntKind.i64.wrap ((k : Int) - 1) = (kp : Int) := by have h1 := LS.out; have h2 := F0.out.len; rw [IntKind.wrap_i64]; omega
                have q3 : (kp : Int) < (g.length : Int) := by omega
                have q4 : (0 : Int) ≤ (kp : Int) := by omega
                have q6 : decide ((mp : Int) ≥ (m : Int)) = false := decide_eq_false (by omega)
                have q7 : ¬ (m : Int) ≤ (mp : Int) := by omega
                have q8 : ¬ m ≤ mp := by omega
                clear hkp emp hup em
                go_wp2_with fail
                go_quiet (first | (go_at_call 49; refine Calls.quiet_of (HS.out _)))
                go_wp2
                go_roundg k1
                case measure => omega
                case rel => exact ⟨k + 1, by first | rw [HW2.out] | rfl | go_num, ⟨by have := HK.out; omega⟩, ⟨Kd.C_drewN KC.out _⟩, ⟨Kd.C_drewN LC.out _⟩, ⟨Kd.C_drewN HC.out _⟩, ⟨pw_below_drewN HB.out _⟩⟩
              · have z1 : decide ((k : Int) > 0) = false := decide_eq_false (by omega)
                have z2 : decide (0 < k) = false := decide_eq_false kz
                clear em
                go_wp2_with fail
                go_quiet (first | (go_at_call 49; refine Calls.quiet_of (HS.out _)))
                go_wp2
                go_roundg k1
                case measure => omega
                case rel => exact ⟨k + 1, by first | rw [HW2.out] | rfl | go_num, ⟨by have := HK.out; omega⟩, ⟨Kd.C_drewN KC.out _⟩, ⟨Kd.C_drewN LC.out _⟩, ⟨Kd.C_drewN HC.out _⟩, ⟨pw_below_drewN HB.out _⟩⟩
            · have ckb : decide ((k : Int) < (g.length : Int)) = false := decide_eq_false ck
              have ilo : (i : Int) ≤ (cL : Int) := by have := HCL.out; omega
              have ilo2 : i ≤ cL := by have := HCL.out; omega
              clear HK
              go_wp2_with fail
              go_loopg [92] i (fun kq v92 w' => ∃ (j : Nat), v92 = .int .i64 (j : Int) ∧ Aside0 (j + kq = i) ∧ Aside0 (Kd.C (Kd.slice 33 k33) w' A0 l0.length l0) ∧ Aside0 (Kd.C (Kd.slice 3 (Kd.int .i64)) w' (some adL) gs.length gs) ∧ Aside0 ((Kd.int .i64).C w' (some adg) g.length g) ∧ Aside0 (Below w.heap.size w w'))
              case atStart => exact ⟨0, rfl, ⟨by simp⟩, KC, LC, HC, HB⟩
              case round =>
                clear KC LC HC HB ilo ilo2
                obtain ⟨j, rfl, HJ, KC, LC, HC, HB⟩ := hrel
                by_cases cj : (j : Int) < (i : Int)
                · have cjb : decide ((j : Int) < (i : Int)) = true := decide_eq_true cj
                  have pj : (0 : Int) ≤ j := by omega
                  have hji : j < i := by omega
                  have hil := PP.out.2.2
                  obtain ⟨k1, rfl⟩ : ∃ k1, gk = k1 + 1 := ⟨gk - 1, by have := HJ.out; omega⟩
                  obtain ⟨ho, eho, hol, hopos⟩ := OK.out.head j (by omega)
                  have hdiff := OK.out.diff i j ho h0 hji hil eho (by rw [← GE.out]; exact EH.out)
                  obtain ⟨adL', Ao, co, eL', hxo, hGo⟩ := grp_at LC.out j (by omega)
                  cases eL'
                  obtain ⟨ado, rfl, hxo0⟩ := int_at hGo 0 hopos eho
                  rw [addr0] at hxo0
                  obtain ⟨go, hgo⟩ : ∃ g, g = gs.getD j [] := ⟨_, rfl⟩
                  rw [← hgo] at hxo hopos
                  obtain ⟨adg', eg', hxg⟩ := int_at HC.out 0 PP.out.2.1 EH.out
                  cases eg'
                  rw [addr0] at hxg
                  obtain ⟨ad0, Ah, ch, eA0, hxh, hlh, hCh⟩ := row_atC KC.out h0 PP.out.1
                  obtain ⟨ad0', Am, cm, eA0', hxr, hlm, hCm⟩ := row_atC KC.out ho hol
                  rw [eA0] at eA0'
                  cases eA0'
                  have HS := Aside0.mk (same_quiet hCm hlm hCh hlh (F0.out.good _ (rd_in hol)) (F0.out.good _ (rd_in PP.out.1)) false (decide_eq_false hdiff))
                  obtain ⟨rh, hrh⟩ : ∃ r, r = rd_L4 l0 (h0 : Int) := ⟨_, rfl⟩
                  obtain ⟨rm, hrm⟩ : ∃ r, r = rd_L4 l0 (ho : Int) := ⟨_, rfl⟩
                  rw [← hrh] at hxh HS
                  rw [← hrm] at hxr HS
                  have HW2 := Aside0.mk (show wrap64 ((j : Int) + 1) = ((j + 1 : Nat) : Int) by have h1 := GN.out; unfold wrap64; omega)
                  have m1 : (ho : Int) < (l0.length : Int) := by omega
                  have m2 : (0 : Int) ≤ (ho : Int) := by omega
                  have m7 : (h0 : Int) < (l0.length : Int) := by have := PP.out.1; omega
                  have m8 : (0 : Int) ≤ (h0 : Int) := by omega
                  have gz : (0 : Int) < (g.length : Int) := by have := PP.out.2.1; omega
                  have gzo : (0 : Int) < (go.length : Int) := by omega
                  clear hrh hrm hdiff hCh hCm hlh hlm hol hji hil hgo hGo eho
                  subst eA0
                  go_wp2_with fail
                  go_quiet (first | (go_at_call 49; refine Calls.quiet_of (HS.out _)))
                  go_wp2
                  go_roundg k1
                  case measure => omega
                  case rel => exact ⟨j + 1, by first | rw [HW2.out] | rfl | go_num, ⟨by have := HJ.out; omega⟩, ⟨Kd.C_drewN KC.out _⟩, ⟨Kd.C_drewN LC.out _⟩, ⟨Kd.C_drewN HC.out _⟩, ⟨pw_below_drewN HB.out _⟩⟩
                · have cjb : decide ((j : Int) < (i : Int)) = false := decide_eq_false cj
                  have HSM := Aside0.mk (show wrap64 ((S : Int) + (g.length : Int)) = (((gs.take (i + 1)).map List.length).sum : Nat) by have h1 := LS.out; have h2 := F0.out.len; unfold wrap64; omega)
                  clear HJ gz
                  go_wp2
                  go_roundg ko
                  case measure => omega
                  case rel => exact ⟨i + 1, by first | rw [hW.out] | rfl | go_num, by first | rw [HSM.out] | (have := HSM.out; simp_all; done), ⟨by have := HI.out; omega⟩, KC, LC, HB⟩
        · have z1 : decide ((i : Int) > 0) = false := decide_eq_false (by omega)
          have z2 : decide (0 < i) = false := decide_eq_false cz
          go_wp2_with fail
          go_quiet (fail)
          have KC1 := Aside0.mk (Kd.C_drewN KC.out nq)
          have LC1 := Aside0.mk (Kd.C_drewN LC.out nq)
          have HC1 := Aside0.mk (Kd.C_drewN HC.out nq)
          have HB1 := Aside0.mk (pw_below_drewN HB.out nq)
          skip
          clear KC LC HC HB hxg hxL HX gpos gposN gzb z1 z2
          generalize wr.drewN nq = W1 at KC1 LC1 HC1 HB1 ⊢
          go_wp2_with fail
          go_loopg [47] g.length (fun kq v47 w' => ∃ (k : Nat), v47 = .int .i64 (k : Int) ∧ Aside0 (k + kq = g.length) ∧ Aside0 (Kd.C (Kd.slice 33 k33) w' A0 l0.length l0) ∧ Aside0 (Kd.C (Kd.slice 3 (Kd.int .i64)) w' (some adL) gs.length gs) ∧ Aside0 ((Kd.int .i64).C w' (some adg) g.length g) ∧ Aside0 (Below w.heap.size w w'))
          case atStart => exact ⟨0, rfl, ⟨by simp⟩, KC1, LC1, HC1, HB1⟩
          case round =>
            clear KC1 LC1 HC1 HB1
            obtain ⟨k, rfl, HK, KC, LC, HC, HB⟩ := hrel
            by_cases ck : (k : Int) < (g.length : Int)
            · have ckb : decide ((k : Int) < (g.length : Int)) = true := decide_eq_true ck
              have pk : (0 : Int) ≤ k := by omega
              have hkl : k < g.length := by omega
              obtain ⟨k1, rfl⟩ : ∃ k1, gk = k1 + 1 := ⟨gk - 1, by have := HK.out; omega⟩
              have hil := PP.out.2.2
              obtain ⟨m, em, hml⟩ := OK.out.elem i k hil (by rw [← GE.out]; exact hkl)
              have hsame := OK.out.same i k h0 m hil (by rw [← GE.out]; exact hkl) (by rw [← GE.out]; exact EH.out) em
              rw [← GE.out] at em
              obtain ⟨adg', eg', hxm⟩ := int_at HC.out k hkl em
              cases eg'
              obtain ⟨adg', eg', hxg⟩ := int_at HC.out 0 PP.out.2.1 EH.out
              cases eg'
              rw [addr0] at hxg
              obtain ⟨ad0, Ah, ch, eA0, hxh, hlh, hCh⟩ := row_atC KC.out h0 PP.out.1
              obtain ⟨ad0', Am, cm, eA0', hxr, hlm, hCm⟩ := row_atC KC.out m hml
              rw [eA0] at eA0'
              cases eA0'
              have HS := Aside0.mk (same_quiet hCh hlh hCm hlm (F0.out.good _ (rd_in PP.out.1)) (F0.out.good _ (rd_in hml)) true (decide_eq_true hsame))
              obtain ⟨rh, hrh⟩ : ∃ r, r = rd_L4 l0 (h0 : Int) := ⟨_, rfl⟩
              obtain ⟨rm, hrm⟩ : ∃ r, r = rd_L4 l0 (m : Int) := ⟨_, rfl⟩
              rw [← hrh] at hxh HS
              rw [← hrm] at hxr HS
              have HW2 := Aside0.mk (show wrap64 ((k : Int) + 1) = ((k + 1 : Nat) : Int) by have h1 := LS.out; have h2 := F0.out.len; unfold wrap64; omega)
              have m1 : decide ((m : Int) < 0) = false := decide_eq_false (by omega)
              have m2 : decide ((m : Int) ≥ (l0.length : Int)) = false := decide_eq_false (by omega)
              have m3 : (m : Int) < (l0.length : Int) := by omega
              have m4 : (0 : Int) ≤ (m : Int) := by omega
              have m5 : ¬ (m : Int) < 0 := by omega
              have m6 : ¬ l0.length ≤ m := by omega
              have m7 : (h0 : Int) < (l0.length : Int) := by have := PP.out.1; omega
              have m8 : (0 : Int) ≤ (h0 : Int) := by omega
              clear hrh hrm hsame hCh hCm hlh hlm hml hkl hil
              subst eA0
              by_cases kz : 0 < k
              · have z1 : decide ((k : Int) > 0) = true := decide_eq_true (by omega)
                have z2 : decide (0 < k) = true := decide_eq_true kz
                have z3 : (0 : Int) < (k : Int) := by omega
                obtain ⟨kp, hkp⟩ : ∃ kp, kp + 1 = k := ⟨k - 1, by omega⟩
                obtain ⟨mp, emp, _⟩ := OK.out.elem i kp PP.out.2.2 (by rw [← GE.out]; omega)
                have hup := OK.out.up i kp PP.out.2.2 (by rw [← GE.out]; omega)
                rw [← GE.out] at emp
                rw [← GE.out, hkp, em, emp] at hup
                obtain ⟨adg', eg', hxp⟩ := int_at HC.out kp (by omega) emp
                cases eg'
                have q1 : wrap64 ((k : Int) - 1) = (kp : Int) := by have h1 := LS.out; have h2 := F0.out.len; unfold wrap64; omega
                have q2 : IntKind.i64.wrap ((k : Int) - 1) = (kp : Int) := by have h1 := LS.out; have h2 := F0.out.len; rw [IntKind.wrap_i64]; omega
                have q3 : (kp : Int) < (g.length : Int) := by omega
                have q4 : (0 : Int) ≤ (kp : Int) := by omega
                have q6 : decide ((mp : Int) ≥ (m : Int)) = false := decide_eq_false (by omega)
                have q7 : ¬ (m : Int) ≤ (mp : Int) := by omega
                have q8 : ¬ m ≤ mp := by omega
                clear hkp emp hup em
                go_wp2_with fail
                go_quiet (first | (go_at_call 49; refine Calls.quiet_of (HS.out _)))
                go_wp2
                go_roundg k1
                case measure => omega
                case rel => exact ⟨k + 1, by first | rw [HW2.out] | rfl | go_num, ⟨by have := HK.out; omega⟩, ⟨Kd.C_drewN KC.out _⟩, ⟨Kd.C_drewN LC.out _⟩, ⟨Kd.C_drewN HC.out _⟩, ⟨pw_below_drewN HB.out _⟩⟩
              · have z1 : decide ((k : Int) > 0) = false := decide_eq_false (by omega)
                have z2 : decide (0 < k) = false := decide_eq_false kz
                clear em
                go_wp2_with fail
                go_quiet (first | (go_at_call 49; refine Calls.quiet_of (HS.out _)))
                go_wp2
                go_roundg k1
                case measure => omega
                case rel => exact ⟨k + 1, by first | rw [HW2.out] | rfl | go_num, ⟨by have := HK.out; omega⟩, ⟨Kd.C_drewN KC.out _⟩, ⟨Kd.C_drewN LC.out _⟩, ⟨Kd.C_drewN HC.out _⟩, ⟨pw_below_drewN HB.out _⟩⟩
            · have ckb : decide ((k : Int) < (g.length : Int)) = false := decide_eq_false ck
              have ilo : (i : Int) ≤ (cL : Int) := by have := HCL.out; omega
              have ilo2 : i ≤ cL := by have := HCL.out; omega
              clear HK
              go_wp2_with fail
              go_loopg [92] i (fun kq v92 w' => ∃ (j : Nat), v92 = .int .i64 (j : Int) ∧ Aside0 (j + kq = i) ∧ Aside0 (Kd.C (Kd.slice 33 k33) w' A0 l0.length l0) ∧ Aside0 (Kd.C (Kd.slice 3 (Kd.int .i64)) w' (some adL) gs.length gs) ∧ Aside0 ((Kd.int .i64).C w' (some adg) g.length g) ∧ Aside0 (Below w.heap.size w w'))
              case atStart => exact ⟨0, rfl, ⟨by simp⟩, KC, LC, HC, HB⟩
              case round =>
                clear KC LC HC HB ilo ilo2
                obtain ⟨j, rfl, HJ, KC, LC, HC, HB⟩ := hrel
                by_cases cj : (j : Int) < (i : Int)
                · have cjb : decide ((j : Int) < (i : Int)) = true := decide_eq_true cj
                  have pj : (0 : Int) ≤ j := by omega
                  have hji : j < i := by omega
                  have hil := PP.out.2.2
                  obtain ⟨k1, rfl⟩ : ∃ k1, gk = k1 + 1 := ⟨gk - 1, by have := HJ.out; omega⟩
                  obtain ⟨ho, eho, hol, hopos⟩ := OK.out.head j (by omega)
                  have hdiff := OK.out.diff i j ho h0 hji hil eho (by rw [← GE.out]; exact EH.out)
                  obtain ⟨adL', Ao, co, eL', hxo, hGo⟩ := grp_at LC.out j (by omega)
                  cases eL'
                  obtain ⟨ado, rfl, hxo0⟩ := int_at hGo 0 hopos eho
                  rw [addr0] at hxo0
                  obtain ⟨go, hgo⟩ : ∃ g, g = gs.getD j [] := ⟨_, rfl⟩
                  rw [← hgo] at hxo hopos
                  obtain ⟨adg', eg', hxg⟩ := int_at HC.out 0 PP.out.2.1 EH.out
                  cases eg'
                  rw [addr0] at hxg
                  obtain ⟨ad0, Ah, ch, eA0, hxh, hlh, hCh⟩ := row_atC KC.out h0 PP.out.1
                  obtain ⟨ad0', Am, cm, eA0', hxr, hlm, hCm⟩ := row_atC KC.out ho hol
                  rw [eA0] at eA0'
                  cases eA0'
                  have HS := Aside0.mk (same_quiet hCm hlm hCh hlh (F0.out.good _ (rd_in hol)) (F0.out.good _ (rd_in PP.out.1)) false (decide_eq_false hdiff))
                  obtain ⟨rh, hrh⟩ : ∃ r, r = rd_L4 l0 (h0 : Int) := ⟨_, rfl⟩
                  obtain ⟨rm, hrm⟩ : ∃ r, r = rd_L4 l0 (ho : Int) := ⟨_, rfl⟩
                  rw [← hrh] at hxh HS
                  rw [← hrm] at hxr HS
                  have HW2 := Aside0.mk (show wrap64 ((j : Int) + 1) = ((j + 1 : Nat) : Int) by have h1 := GN.out; unfold wrap64; omega)
                  have m1 : (ho : Int) < (l0.length : Int) := by omega
                  have m2 : (0 : Int) ≤ (ho : Int) := by omega
                  have m7 : (h0 : Int) < (l0.length : Int) := by have := PP.out.1; omega
                  have m8 : (0 : Int) ≤ (h0 : Int) := by omega
                  have gz : (0 : Int) < (g.length : Int) := by have := PP.out.2.1; omega
                  have gzo : (0 : Int) < (go.length : Int) := by omega
                  clear hrh hrm hdiff hCh hCm hlh hlm hol hji hil hgo hGo eho
                  subst eA0
                  go_wp2_with fail
                  go_quiet (first | (go_at_call 49; refine Calls.quiet_of (HS.out _)))
                  go_wp2
                  go_roundg k1
                  case measure => omega
                  case rel => exact ⟨j + 1, by first | rw [HW2.out] | rfl | go_num, ⟨by have := HJ.out; omega⟩, ⟨Kd.C_drewN KC.out _⟩, ⟨Kd.C_drewN LC.out _⟩, ⟨Kd.C_drewN HC.out _⟩, ⟨pw_below_drewN HB.out _⟩⟩
                · have cjb : decide ((j : Int) < (i : Int)) = false := decide_eq_false cj
                  have HSM := Aside0.mk (show wrap64 ((S : Int) + (g.length : Int)) = (((gs.take (i + 1)).map List.length).sum : Nat) by have h1 := LS.out; have h2 := F0.out.len; unfold wrap64; omega)
                  clear HJ gz
                  go_wp2
                  go_roundg ko
                  case measure => omega
                  case rel => exact ⟨i + 1, by first | rw [hW.out] | rfl | go_num, by first | rw [HSM.out] | (have := HSM.out; simp_all; done), ⟨by have := HI.out; omega⟩, KC, LC, HB⟩
      · have cib : decide ((i : Int) < (gs.length : Int)) = false := decide_eq_false ci
        have ei : i = gs.length := by have := HI.out; omega
        have es : ((gs.take i).map List.length).sum = l0.length := by rw [ei, List.take_length]; exact OK.out.sum
        rw [es]
        clear es
        go_wp2_with fail
        refine (alive_calls _).mono ?_
        rintro e w9 ⟨rfl, hb⟩
        replace HB := Aside0.mk (below_step HB.out hb)
        clear hb
        go_wp2
        go_ret
        exact ⟨rfl, HB.out⟩
end Go.Proofs.Ythghflgmeepnlaa.Pa
namespace Go.Proofs.Ythghflgmeepnlaa.Pure
open Go.RowKit Go.Proofs.Ythghflgmeepnlaa.Pa
theorem RowsGroups (l0 : List (List S33)) (h0 : l0.length ≤ maxLen) (g0 : ∀ x ∈ l0, x.length ≤ maxLen ∧ ∀ y ∈ x, okv y) :
    ∃ k r, cordonlaw11_Few.f k [l0] = some r ∧ (r = true → ∀ l ∈ [l0], gL l) := by
  have hm : maxLen = 9223372036854775807 := rfl
  refine few11 [l0] (by simp) (fun l hl => ?_)
  simp only [List.mem_cons, List.not_mem_nil, or_false] at hl
  subst hl
  exact ⟨by omega, fun r hr => ⟨by have := (g0 r hr).1; omega, (g0 r hr).2⟩⟩
end Go.Proofs.Ythghflgmeepnlaa.Pure
