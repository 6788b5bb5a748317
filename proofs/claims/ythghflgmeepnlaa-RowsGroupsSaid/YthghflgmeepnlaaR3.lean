/- rows.Groups: the places of rows with the same key. rows.met, Except, Intersect, Union. slices.Clone at rows; rows.Union. -/
import Derived.Test.YthghflgmeepnlaaR1
import Derived.Laws.EntriesVeiled
import Derived.Lib.SliceRun
namespace Go.Proofs.Ythghflgmeepnlaa.Pa
open Go.RowKit Go.Proofs.YthghflgmeepnlaaW.PrintWords Go.Proofs.YthghflgmeepnlaaW.PrintLast Go.Proofs.YthghflgmeepnlaaW.PrintMore
open Go.Maps
set_option linter.unusedVariables false
set_option linter.unusedSimpArgs false

theorem inf23 : (Try.prog.info? 23).map (fun i => (i.zero, i.size, i.bytes)) = some (some (.slice none 0 0), 1, 24) := by kernel_rfl
theorem inf3 : (Try.prog.info? 3).map (fun i => (i.zero, i.size, i.bytes)) = some (some (.int .i64 0), 1, 8) := by kernel_rfl

/-- A map of where each text stands first. -/
structure AtM (w : World) (g n : Nat) (ks : List (List UInt8)) : Prop where
  mk ::
  own : ∃ D : DataW Unit, w.ownsMap Try.prog 9 (plainElem Try.prog 3) g n D ∧ IsMap D ∧ (∀ s : List UInt8, D.atKey (.string s) (.lit (.int .i64 0)) = .lit (.int .i64 ((if s ∈ ks then ks.idxOf s else 0) : Nat))) ∧ ∀ s : List UInt8, Maps.has D (.string s) = decide (s ∈ ks)
theorem AtM.start (w : World) : AtM (w.alloc (.map #[] 0)) w.heap.size 0 [] := ⟨.map [], World.ownsMap_made _ _ _ _, isMap_empty, fun s => by rfl, fun s => by rfl⟩
theorem AtM.grown {w w1 : World} {g n : Nat} {l : List (List UInt8)} (h : AtM w g n l) {row : Option Nat} (hg : w.grownBy w1 row) (hne : some g ≠ row) : AtM w1 g n l := by
  obtain ⟨D, h1, h2, h3⟩ := h.own
  exact ⟨D, h1.kept hg hne, h2, h3⟩
theorem AtM.below {w w1 : World} {g n : Nat} {l : List (List UInt8)} (h : AtM w g n l) (hb : Below w.heap.size w w1) : AtM w1 g n l := h.grown (grown_of_below hb) (by simp)
theorem AtM.lt {w : World} {g n : Nat} {l : List (List UInt8)} (h : AtM w g n l) : g < w.heap.size := by
  obtain ⟨D, h1, _, _⟩ := h.own
  exact h1.lt
theorem AtM.more {w : World} {g n : Nat} {l : List (List UInt8)} (h : AtM w g n l) : AtM w g (n + 1) l := by
  obtain ⟨D, h1, h2, h3⟩ := h.own
  exact ⟨D, h1.mono (Nat.le_succ n), h2, h3⟩
theorem put_at {D : DataW Unit} (hD : IsMap D) {ks : List (List UInt8)} {s : List UInt8} (h : ∀ t : List UInt8, D.atKey (.string t) (.lit (.int .i64 0)) = .lit (.int .i64 ((if t ∈ ks then ks.idxOf t else 0) : Nat))) (hh : ∀ t : List UInt8, Maps.has D (.string t) = decide (t ∈ ks)) (hs : s ∉ ks) :
    IsMap (D.put (.string s) (.lit (.int .i64 ks.length))) ∧ (∀ t : List UInt8, (D.put (.string s) (.lit (.int .i64 ks.length))).atKey (.string t) (.lit (.int .i64 0)) = .lit (.int .i64 ((if t ∈ ks ++ [s] then (ks ++ [s]).idxOf t else 0) : Nat))) ∧ ∀ t : List UInt8, Maps.has (D.put (.string s) (.lit (.int .i64 ks.length))) (.string t) = decide (t ∈ ks ++ [s]) := by
  refine ⟨hD.put _ _, fun t => ?_, fun t => ?_⟩
  · by_cases hst : t = s
    · subst hst
      rw [atKey_put_same hD (by simp [WideAt.IsKeyLit]), if_pos (by simp), List.idxOf_append, if_neg hs]
      simp
    · rw [atKey_put_other (fun he => hst (by injection he)), h t]
      by_cases ht : t ∈ ks
      · rw [if_pos ht, if_pos (by simp [ht]), List.idxOf_append, if_pos ht]
      · rw [if_neg ht, if_neg (by simp [ht, hst])]
  · by_cases hst : t = s
    · subst hst
      rw [has_put_same hD (by simp [WideAt.IsKeyLit])]
      simp
    · rw [has_put_other (fun he => hst (by injection he)), hh t]
      simp [hst]

/-- One more row's key: the keys met, each once, and the places of each. -/
def grpStep (st : List (List UInt8) × List (List Int)) (k : List UInt8) (i : Nat) : List (List UInt8) × List (List Int) :=
  if k ∈ st.1 then (st.1, st.2.set (st.1.idxOf k) (st.2.getD (st.1.idxOf k) [] ++ [(i : Int)])) else (st.1 ++ [k], st.2 ++ [[(i : Int)]])
def grpGo : Nat → List (List UInt8) × List (List Int) → List (List UInt8) → List (List UInt8) × List (List Int)
  | _, st, [] => st
  | i, st, k :: ks => grpGo (i + 1) (grpStep st k i) ks
/-- The keys of rows. -/
def keysOf (l : List (List S33)) : List (List UInt8) := l.map (fun r => ky (bytesOfRow r))
def groupsL (l : List (List S33)) : List (List Int) := (grpGo 0 ([], []) (keysOf l)).2

theorem drop_keys {l : List (List S33)} {i : Nat} (h1 : i < l.length) : (keysOf l).drop i = ky (bytesOfRow (rd_L4 l (i : Int))) :: (keysOf l).drop (i + 1) := by
  have hlt : i < (keysOf l).length := by unfold keysOf; rw [List.length_map]; exact h1
  rw [List.drop_eq_getElem_cons hlt]
  have e : (keysOf l)[i] = ky (bytesOfRow (rd_L4 l (i : Int))) := by
    have e1 : rd_L4 l (i : Int) = l[i] := by
      unfold rd_L4
      rw [Int.toNat_natCast, List.getD_eq_getElem?_getD, List.getElem?_eq_getElem h1]
      rfl
    rw [e1]
    simp [keysOf]
  rw [e]
set_option maxHeartbeats 8000000 in
set_option maxRecDepth 100000 in
theorem Groups_calls (P0_ : Nat → Prop) (A0 : Option Addr) (c0 : Nat) (l0 : List (List (S33))) (w : World) (hs0 : Kd.V (Kd.slice 33 k33) 22 w w.heap.size (fun k_ => P0_ k_) (.slice A0 l0.length c0) l0)
    (hl : l0.length < 1000000000) (hrow : ∀ r ∈ l0, r.length ≤ 9223372036854775807) (hmax : ∀ r ∈ l0, (bytesOfRow r).size ≤ maxLen) :
    Calls Try.prog 60 #[.slice A0 l0.length c0] w fun e w' => ∃ v0_ : Value, e = .returned (v0_) ∧ Kd.S (Kd.slice 3 (Kd.int .i64)) 23 w' w.heap.size (fun k_ => w.heap.size < k_) v0_ (groupsL l0) ∧ Below w.heap.size w w' := by
  have hmm := @run_makeMap Try.prog
  have HO0 := Aside0.mk (Kd.V_bound hs0)
  have HB := Aside0.mk (Below.refl w.heap.size w)
  have HR := Aside0.mk hrow
  have HX := Aside0.mk hmax
  have HL := Aside0.mk hl
  clear hrow hl hmax hs0
  go_enter Try.func60, Try.ntmps60
  go_wp2
  go_loopg [4, 13] l0.length (fun kq v4 v13 w' => ∃ (i : Nat) (ks : List (List UInt8)) (gs : List (List Int)), v13 = .int .i64 (i : Int) ∧ Aside0 (i + kq = l0.length) ∧ Aside0 (ks.length = gs.length ∧ gs.length ≤ i) ∧ Aside0 (∀ g ∈ gs, g.length ≤ i) ∧ Aside0 (grpGo i (ks, gs) ((keysOf l0).drop i) = grpGo 0 ([], []) (keysOf l0)) ∧ Aside0 (AtM w' w.heap.size i ks) ∧ Aside0 (Kd.V (Kd.slice 33 k33) 22 w' w.heap.size (fun k_ => P0_ k_ ∧ k_ < w.heap.size) (.slice A0 l0.length c0) l0) ∧ Aside0 (Kd.S (Kd.slice 3 (Kd.int .i64)) 23 w' w.heap.size (fun k_ => w.heap.size < k_) v4 gs) ∧ Aside0 (Below w.heap.size w w'))
  case atStart => exact ⟨0, [], [], rfl, ⟨by simp⟩, ⟨by simp⟩, ⟨by simp⟩, ⟨rfl⟩, ⟨AtM.start w⟩, ⟨Kd.V_alloc HO0.out _⟩, ⟨Kd.S_nil _ _ _ _ _⟩, ⟨below_alloc HB.out _⟩⟩
  case round =>
    clear HB HO0
    obtain ⟨i, ks, gs, rfl, HI, HZ, HG, HA, HD, HV, HS, HB⟩ := hrel
    by_cases c2 : (i : Int) < (l0.length : Int)
    · have c2b : decide ((i : Int) < (l0.length : Int)) = true := decide_eq_true c2
      have p0 : (0 : Int) ≤ i := by omega
      obtain ⟨k1, rfl⟩ : ∃ k1, gk = k1 + 1 := ⟨gk - 1, by have := HI.out; omega⟩
      obtain ⟨ad, A1, c1, e1, hx1, hl1, hi1⟩ := at_L4 (Kd.V_reads' HV.out).2.2 (i : Int) p0 c2
      cases e1
      simp only [Int.toNat_natCast] at hx1
      have HR1 := Aside0.mk hi1
      have HC1 := Aside0.mk hl1
      clear hi1 hl1
      obtain ⟨Ao, co, eo⟩ := Kd.S_slice HS.out
      subst eo
      have p1 := eq_true p0
      have q1 := eq_true c2
      have hmem : rd_L4 l0 (i : Int) ∈ l0 := by
        unfold rd_L4
        rw [Int.toNat_natCast, List.getD_eq_getElem?_getD, List.getElem?_eq_getElem (by omega)]
        exact List.getElem_mem (by omega)
      have hrl := HR.out _ hmem
      obtain ⟨s, hs⟩ : ∃ s, s = bytesOfRow (rd_L4 l0 (i : Int)) := ⟨_, rfl⟩
      have hkey : keyOf Try.prog 9 (.string s) = some (.string (ky s)) := WideMaps.keyOf_string_mk Try.underlying9 (by rw [hs]; exact HX.out _ hmem)
      have hnl := HL.out
      have hA := HA.out
      rw [drop_keys (by omega), grpGo, ← hs] at hA
      have HA' := Aside0.mk hA
      have HBC := Aside0.mk (rows_bytes_calls A1 c1 (rd_L4 l0 (i : Int)) wr HR1.out HC1.out hrl)
      rw [← hs] at HBC
      have HK := Aside0.mk (show i < maxLen by unfold maxLen; omega)
      have HW := Aside0.mk (show wrap64 ((i : Int) + 1) = ((i + 1 : Nat) : Int) by unfold wrap64; omega)
      have HI' := Aside0.mk (show i + 1 + k1 = l0.length by have := HI.out; omega)
      have HN := Aside0.mk hnl
      clear hs hA hmem hrl hnl HA
      go_wp2_with fail
      refine HBC.out.mono ?_
      rintro e w1 ⟨rfl, hb⟩
      obtain ⟨D, hown, hIs, hat0, hhas⟩ := (HD.out.below hb).own
      have HD1 := Aside0.mk (HD.out.below hb)
      have HV1 := Aside0.mk (Kd.V_below HV.out hb)
      have HS1 := Aside0.mk (Kd.S_below HS.out hb)
      have HB1 := Aside0.mk (below_step HB.out hb)
      clear hb HV HS HB HD HBC
      by_cases c3 : ky s ∈ ks
      · have hh : Maps.has D (.string (ky s)) = true := by rw [hhas]; exact decide_eq_true c3
        obtain ⟨q, hq⟩ : ∃ q, q = ks.idxOf (ky s) := ⟨_, rfl⟩
        have hq0 := hat0 (ky s)
        rw [if_pos c3, ← hq] at hq0
        have HQ := Aside0.mk hq0
        have hql : q < gs.length := by rw [hq, ← HZ.out.1]; exact List.idxOf_lt_length_of_mem c3
        have hA := HA'.out
        obtain ⟨gq, hgq⟩ : ∃ x, x = gs.getD q [] := ⟨_, rfl⟩
        rw [grpStep, if_pos c3, ← hq] at hA
        replace hA : grpGo (i + 1) (ks, gs.set q (gq ++ [(i : Int)])) ((keysOf l0).drop (i + 1)) = grpGo 0 ([], []) (keysOf l0) := by rw [hgq]; exact hA
        have HA2 := Aside0.mk hA
        have hqi : (q : Int) < (gs.length : Int) := by omega
        have hq00 : (0 : Int) ≤ (q : Int) := by omega
        have hgl : (gs.getD q []).length ≤ i := HG.out _ (by rw [List.getD_eq_getElem?_getD, List.getElem?_eq_getElem hql]; exact List.getElem_mem hql)
        rw [← hgq] at hgl
        have HGL := Aside0.mk hgl
        obtain ⟨ado, co2, eo2⟩ := Kd.R_slice1 (Kd.S_R HS1.out) (by omega)
        injection eo2 with ea1 _ ea3
        subst ea1
        subst ea3
        obtain ⟨b, rfl⟩ := Kd.R_head (Kd.S_R HS1.out)
        obtain ⟨oki, c, hcl, hM, hcc, hfr, hoki, hH⟩ := Kd.S_elem HS1.out [] (q : Int) hq00 hqi
        obtain ⟨vr, rfl, hR⟩ := hM
        rw [Int.toNat_natCast, ← hgq] at hR
        clear hgq
        have hcell := hcc 0 vr rfl
        have hfree := hfr 0
        rw [Nat.add_zero, show ((Kd.slice 3 (Kd.int .i64))).sz = 1 from rfl, Nat.mul_one, Int.toNat_natCast] at hcell hfree
        have HRR := Aside0.mk hR
        have HHH := Aside0.mk hH
        have HOK := Aside0.mk hoki
        obtain ⟨Ar, cr, er⟩ := Kd.R_slice hR
        subst er
        have HCELL := Aside0.mk hcell
        have HFREE := Aside0.mk hfree
        clear hcl hcc hfr hR hH hoki hat0 hhas hIs c3 hq hq0 hA hgl hfree
        go_wp2_with (first
          | (at_lookup; refine wpList_lookup_own_ok_int _ rfl _ _ 103 rfl 9 3 .i64 law9 Try.underlying103 Try.underlying3 (zero3m _) w.heap.size _ _ rfl hown _ _ rfl hkey ?_; intro c' hat' hwc'; rw [hh]; (have e1 : c' = (q : Int) := by (have h1 := hat'.symm.trans HQ.out; injection h1 with h1; injection h1)); subst e1; clear hat' hwc')
          | ((with_reducible refine gate_builtin (b := .append) (xs := #[.tmp 41, .tmp 43]) rfl ?_); at_builtin; go_loud (refine Kd.R_append (Kd.int .i64) (w0 := w) w.heap.size rfl (.tmp 41) (.tmp 43) 23 3 (.int .i64 0) 8 rfl Try.underlying23 inf3 rfl (by decide) (by omega) (.slice Ar gq.length cr) gq (i : Int) [.int .i64 (i : Int)] (fun k => oki k ∨ (fun k_ => w.heap.size < k_) k ∧ w1.heap.size ≤ k) (fun _ => False) rfl (by first | (go_simp; done) | (go_simp; rfl)) ?aP (fun _ hk => hk.elim) ?aF ?aO ?aB ?aS ?aL ?_; (case aP => exact rfl); (case aB => exact HB1.out); (case aF => exact (fun k hk => .inr ⟨Nat.lt_of_lt_of_le HD1.out.lt hk, hk⟩)); (case aO => exact Kd.R_mono HRR.out (fun k hk => .inl hk)); (case aS => exact below_size HB1.out); (case aL => have h1 := HGL.out; have h2 := HN.out; have h3 := HI'.out; omega); intro v4 w4 ho hb hg hat; obtain ⟨A4, c4, e4⟩ := Kd.R_slice ho; rw [List.length_append, show ([(i : Int)] : List Int).length = 1 from rfl] at e4; subst e4; have HR4 := Aside0.mk ho; have HB4 := Aside0.mk hb; have HV4 := Aside0.mk (Kd.V_grown HV1.out hg (fun k hk he => by have h1 := own_base (Kd.R_own HRR.out).choose_spec k he.symm; have h2 := hk.2; omega)); have HD4 := Aside0.mk (HD1.out.grown hg (fun he => by have h1 := (HOK.out _ (HRR.out.1 _ he.symm)).1; omega)); have HH4 := Aside0.mk (Kd.H_grown (Kd.H_widen HHH.out) hg (fun k hk => .inl (HRR.out.1 k hk))); clear ho hb hg hat HRR HB1 HV1 HD1 HHH))
          | ((with_reducible refine gate_store (t := 23) (p := 45) rfl ?_); go_loud (refine Kd.H_store (Kd.slice 3 (Kd.int .i64)) (w0 := w) w.heap.size rfl rfl 23 (.tmp 45) (.tmp 44) rfl 23 (q : Int) 0 gs (gq ++ [(i : Int)]) (.slice A4 (gq.length + 1) c4) [.slice A4 (gq.length + 1) c4] _ _ _ (fun k => oki k ∨ (fun k_ => w.heap.size < k_) k ∧ w1.heap.size ≤ k) rfl ?bO rfl ?bU (by kernel_rfl) ?b1 HH4.out hq00 hqi (Nat.le_refl _) ?bM (fun k hk => hk) HB4.out ?_; (case bO => (rw [Int.toNat_natCast, show ((Kd.slice 3 (Kd.int .i64))).sz = 1 from rfl]; omega)); (case bU => rfl); (case b1 => (simp [Value.oneCell'])); (case bM => exact ⟨_, rfl, HR4.out⟩); intro w9 hs9 hb9 hg9; rw [Int.toNat_natCast] at hs9; have HS9 := Aside0.mk hs9; have HB9 := Aside0.mk hb9; have HV9 := Aside0.mk (Kd.V_grown HV4.out hg9 (fun k hk he => by injection he with he; have h1 := (Kd.S_R hs9).1 b rfl; have h2 := hk.2; omega)); have HD9 := Aside0.mk (HD4.out.grown hg9 (fun he => by injection he with he; have h1 := (Kd.S_R hs9).1 b rfl; omega)); clear hs9 hb9 hg9 HB4 HV4 HD4 HH4 HR4)))
        go_roundg k1
        case measure => omega
        case rel => exact ⟨i + 1, ks, gs.set q (gq ++ [(i : Int)]), by rw [HW.out], HI', ⟨by have := HZ.out; simp; omega⟩, ⟨fun g hg => by
            rcases List.mem_or_eq_of_mem_set hg with hg | hg
            · have := HG.out g hg; omega
            · rw [hg, List.length_append]; have := HGL.out; simp; omega⟩, HA2, ⟨HD9.out.more⟩, HV9, HS9, HB9⟩
      · have hh : Maps.has D (.string (ky s)) = false := by rw [hhas]; exact decide_eq_false c3
        have hq0 := hat0 (ky s)
        rw [if_neg c3] at hq0
        have HQ := Aside0.mk hq0
        have HPC := Aside0.mk (put_at hIs hat0 hhas c3)
        rw [HZ.out.1] at HPC
        have hA := HA'.out
        rw [grpStep, if_neg c3] at hA
        have HA2 := Aside0.mk hA
        have HGL2 := Aside0.mk (show gs.length < 1000000000 by have h1 := HZ.out; have h2 := HN.out; omega)
        have hwq : (Lit.int .i64 (gs.length : Int)).wf = true := WalkArith.wf_i64 (by have := HGL2.out; omega)
        have HWQ := Aside0.mk hwq
        have hq00 : (0 : Int) ≤ (gs.length : Int) := by omega
        have hqi : (gs.length : Int) < ((gs.length + 1 : Nat) : Int) := by omega
        clear hat0 hhas hIs c3 hq0 hA hwq
        go_wp2_with (first
          | (at_lookup; refine wpList_lookup_own_ok_int _ rfl _ _ 103 rfl 9 3 .i64 law9 Try.underlying103 Try.underlying3 (zero3m _) w.heap.size _ _ rfl hown _ _ rfl hkey ?_; intro c' hat' hwc'; rw [hh]; (have e1 : c' = 0 := by (have h1 := hat'.symm.trans HQ.out; injection h1 with h1; injection h1)); subst e1; clear hat' hwc')
          | (at_mapUpdate; refine wpList_mapUpdate_own _ rfl _ _ _ 103 rfl 9 3 law9 Try.underlying103 _ w.heap.size _ _ rfl hown HK.out _ _ _ rfl rfl hkey _ [] (plainElem_int Try.underlying3 HWQ.out) ?_; intro w2 hown1 hg1; have HD2 := Aside0.mk (AtM.mk ⟨_, hown1, HPC.out.1, HPC.out.2.1, HPC.out.2.2⟩); have HV2 := Aside0.mk (Kd.V_grown HV1.out hg1 (fun k hk he => by injection he with he; have := hk.2; omega)); have HS2 := Aside0.mk (Kd.S_grown HS1.out hg1 (fun k hk he => by injection he with he; omega)); have HB2 := Aside0.mk (pw_below_grown HB1.out _ (below_size HB1.out) hg1 (fun k hk => by injection hk with hk; omega)); clear HV1 HS1 HB1 HD1 hg1 hown1 hown)
          | ((with_reducible refine gate_builtin (b := .append) (xs := #[.tmp 33, .tmp 34]) rfl ?_); at_builtin; refine Kd.S_append (Kd.slice 3 (Kd.int .i64)) (w0 := w) w.heap.size rfl (.tmp 33) (.tmp 34) 66 23 (.slice none 0 0) 24 rfl Try.underlying66 inf23 rfl (by decide) (by omega) (.slice Ao gs.length co) gs ([] : List Int) [.slice none 0 0] (fun k_ => w.heap.size < k_) (fun _ => False) rfl rfl ?aP (fun _ hk => hk.elim) ?aF ?aO ?aB ?aS ?aL ?_; (case aP => exact ⟨_, rfl, Kd.R_nil _ _ _ _ _⟩); (case aB => exact HB2.out); (case aF => exact (fun k hk => Nat.lt_of_lt_of_le HD2.out.lt hk)); (case aO => exact Kd.S_mono HS2.out (fun k hk => ⟨hk, fun h => h⟩)); (case aS => exact below_size HB2.out); (case aL => have := HGL2.out; omega); intro v3 w3 ho hb hg hat; have HS3 := Aside0.mk ho; have HB3 := Aside0.mk hb; have HV3 := Aside0.mk (Kd.V_grown HV2.out hg (fun k hk he => by have h1 := own_base (Kd.R_own (Kd.S_R HS2.out)).choose_spec k he.symm; have h2 := hk.2; omega)); have HD3 := Aside0.mk (HD2.out.grown hg (fun he => by have h1 := (Kd.S_R HS2.out).1 _ he.symm; omega)); clear ho hb hg hat HS2 HB2 HV2 HD2; (obtain ⟨ado, co2, eo2⟩ := Kd.R_slice1 (Kd.S_R HS3.out) (by simp)); rw [List.length_append, show ([([] : List Int)] : List (List Int)).length = 1 from rfl] at eo2; subst eo2; (obtain ⟨b, rfl⟩ := Kd.R_head (Kd.S_R HS3.out)); (obtain ⟨oki, c, hcl, hM, hcc, hfr, hoki, hH⟩ := Kd.S_elem HS3.out [] (gs.length : Int) hq00 hqi); (obtain ⟨vr, rfl, hR⟩ := hM); rw [Int.toNat_natCast, List.getD_eq_getElem?_getD, List.getElem?_append_right (Nat.le_refl _), Nat.sub_self] at hR; replace hR : (Kd.int .i64).R 3 w3 w.heap.size oki vr ([] : List Int) := hR; have hcell := hcc 0 vr rfl; have hfree := hfr 0; rw [Nat.add_zero, show ((Kd.slice 3 (Kd.int .i64))).sz = 1 from rfl, Nat.mul_one, Int.toNat_natCast] at hcell hfree; have HRR := Aside0.mk hR; have HHH := Aside0.mk hH; have HOK := Aside0.mk hoki; (obtain ⟨Ar, cr, er⟩ := Kd.R_slice hR); subst er; replace hcell : w3.cell? ⟨b, gs.length, none⟩ = some (.slice Ar 0 cr) := hcell; clear hcl hcc hfr hR hH hoki)
          | ((with_reducible refine gate_builtin (b := .append) (xs := #[.tmp 41, .tmp 43]) rfl ?_); at_builtin; go_loud (refine Kd.R_append (Kd.int .i64) (w0 := w) w.heap.size rfl (.tmp 41) (.tmp 43) 23 3 (.int .i64 0) 8 rfl Try.underlying23 inf3 rfl (by decide) (by omega) (.slice Ar 0 cr) ([] : List Int) (i : Int) [.int .i64 (i : Int)] (fun k => oki k ∨ (fun k_ => w.heap.size < k_) k ∧ w3.heap.size ≤ k) (fun _ => False) rfl (by first | (go_simp; done) | (go_simp; rfl)) ?aP (fun _ hk => hk.elim) ?aF ?aO ?aB ?aS ?aL ?_; (case aP => exact rfl); (case aB => exact HB3.out); (case aF => exact (fun k hk => .inr ⟨Nat.lt_of_lt_of_le HD3.out.lt hk, hk⟩)); (case aO => exact Kd.R_mono HRR.out (fun k hk => .inl hk)); (case aS => exact below_size HB3.out); (case aL => simp); intro v4 w4 ho hb hg hat; obtain ⟨A4, c4, e4⟩ := Kd.R_slice ho; rw [show (([] : List Int) ++ [(i : Int)]).length = 1 from rfl] at e4; subst e4; have HR4 := Aside0.mk ho; have HB4 := Aside0.mk hb; have HV4 := Aside0.mk (Kd.V_grown HV3.out hg (fun k hk he => by have h1 := own_base (Kd.R_own HRR.out).choose_spec k he.symm; have h2 := hk.2; omega)); have HD4 := Aside0.mk (HD3.out.grown hg (fun he => by have h1 := (HOK.out _ (HRR.out.1 _ he.symm)).1; omega)); have HH4 := Aside0.mk (Kd.H_grown (Kd.H_widen HHH.out) hg (fun k hk => .inl (HRR.out.1 k hk))); clear ho hb hg hat HRR HB3 HV3 HD3 HHH))
          | ((with_reducible refine gate_store (t := 23) (p := 45) rfl ?_); go_loud (refine Kd.H_store (Kd.slice 3 (Kd.int .i64)) (w0 := w) w.heap.size rfl rfl 23 (.tmp 45) (.tmp 44) rfl 23 (gs.length : Int) 0 (gs ++ [[]]) [(i : Int)] (.slice A4 (1) c4) [.slice A4 (1) c4] _ _ _ (fun k => oki k ∨ (fun k_ => w.heap.size < k_) k ∧ w3.heap.size ≤ k) rfl ?bO rfl ?bU (by kernel_rfl) ?b1 HH4.out hq00 hqi (Nat.le_refl _) ?bM (fun k hk => hk) HB4.out ?_; (case bO => (rw [Int.toNat_natCast, show ((Kd.slice 3 (Kd.int .i64))).sz = 1 from rfl]; omega)); (case bU => rfl); (case b1 => (simp [Value.oneCell'])); (case bM => exact ⟨_, rfl, HR4.out⟩); intro w9 hs9 hb9 hg9; rw [Int.toNat_natCast, List.set_append_right _ _ (Nat.le_refl _), Nat.sub_self, List.set_cons_zero] at hs9; have HS9 := Aside0.mk hs9; have HB9 := Aside0.mk hb9; have HV9 := Aside0.mk (Kd.V_grown HV4.out hg9 (fun k hk he => by injection he with he; have h1 := (Kd.S_R hs9).1 b rfl; have h2 := hk.2; omega)); have HD9 := Aside0.mk (HD4.out.grown hg9 (fun he => by injection he with he; have h1 := (Kd.S_R hs9).1 b rfl; omega)); clear hs9 hb9 hg9 HB4 HV4 HD4 HH4 HR4)))
        go_roundg k1
        case measure => omega
        case rel => exact ⟨i + 1, ks ++ [ky s], gs ++ [[(i : Int)]], by rw [HW.out], HI', ⟨by have := HZ.out; simp; omega⟩, ⟨fun g hg => by
            rcases List.mem_append.1 hg with hg | hg
            · have := HG.out g hg; omega
            · rw [List.mem_singleton.1 hg]; simp⟩, HA2, ⟨HD9.out⟩, HV9, HS9, HB9⟩
    · have c2b : decide ((i : Int) < (l0.length : Int)) = false := decide_eq_false c2
      have hA := HA.out
      rw [show i = l0.length by have := HI.out; omega, show l0.length = (keysOf l0).length by unfold keysOf; simp, List.drop_length] at hA
      have hg : gs = groupsL l0 := by unfold groupsL; rw [← hA]; rfl
      subst hg
      obtain ⟨Ao, co, eo⟩ := Kd.S_slice HS.out
      subst eo
      clear hA
      go_wp2
      go_ret
      exact ⟨_, rfl, HS.out, HB.out⟩
end Go.Proofs.Ythghflgmeepnlaa.Pa
namespace Go.Proofs.Ythghflgmeepnlaa.Pa
open Go.RowKit Go.Proofs.YthghflgmeepnlaaW.PrintWords Go.Proofs.YthghflgmeepnlaaW.PrintLast Go.Proofs.YthghflgmeepnlaaW.PrintMore
open Go.Maps
set_option linter.unusedVariables false
set_option linter.unusedSimpArgs false

theorem bytes_at {w : World} {l0 : List (List S33)} {ok : Nat → Prop} {b c0 : Nat} {A0 : Option Addr} (hV : Kd.V (Kd.slice 33 k33) 22 w b ok (.slice A0 l0.length c0) l0) (i : Nat) (c2 : (i : Int) < (l0.length : Int))
    (hrow : ∀ r ∈ l0, r.length ≤ 9223372036854775807) (hmax : ∀ r ∈ l0, (bytesOfRow r).size ≤ maxLen) :
    ∃ (ad : Addr) (A1 : Option Addr) (c1 : Nat) (s : ByteArray), A0 = some ad ∧ s = bytesOfRow (rd_L4 l0 (i : Int)) ∧ w.cell? (ad.add i) = some (.slice A1 (rd_L4 l0 (i : Int)).length c1) ∧ keyOf Try.prog 9 (.string s) = some (.string (ky s)) ∧
      (keysOf l0).drop i = ky s :: (keysOf l0).drop (i + 1) ∧ Calls Try.prog 98 #[.slice A1 (rd_L4 l0 (i : Int)).length c1] w fun e w' => e = .returned (.string s) ∧ Below w.heap.size w w' := by
  obtain ⟨ad, A1, c1, e1, hx1, hl1, hi1⟩ := at_L4 (Kd.V_reads' hV).2.2 (i : Int) (by omega) c2
  simp only [Int.toNat_natCast] at hx1
  have hmem : rd_L4 l0 (i : Int) ∈ l0 := by
    unfold rd_L4
    rw [Int.toNat_natCast, List.getD_eq_getElem?_getD, List.getElem?_eq_getElem (by omega)]
    exact List.getElem_mem (by omega)
  exact ⟨ad, A1, c1, _, e1, rfl, hx1, WideMaps.keyOf_string_mk Try.underlying9 (hmax _ hmem), drop_keys (by omega), rows_bytes_calls A1 c1 (rd_L4 l0 (i : Int)) w hi1 hl1 (hrow _ hmem)⟩

set_option maxHeartbeats 8000000 in
set_option maxRecDepth 100000 in
theorem met_calls (P0_ : Nat → Prop) (A0 : Option Addr) (c0 : Nat) (l0 : List (List (S33))) (w : World) (hs0 : Kd.V (Kd.slice 33 k33) 22 w w.heap.size (fun k_ => P0_ k_) (.slice A0 l0.length c0) l0)
    (hl : l0.length < 1000000000) (hrow : ∀ r ∈ l0, r.length ≤ 9223372036854775807) (hmax : ∀ r ∈ l0, (bytesOfRow r).size ≤ maxLen) :
    Calls Try.prog 102 #[.slice A0 l0.length c0] w fun e w' => ∃ seen, e = .returned (.map (some w.heap.size)) ∧ Seen w' w.heap.size l0.length seen ∧ (∀ s, seen.count s = (keysOf l0).count s) ∧ Below w.heap.size w w' := by
  have hmm := @run_makeMap Try.prog
  have HO0 := Aside0.mk (Kd.V_bound hs0)
  have HB := Aside0.mk (Below.refl w.heap.size w)
  have HR := Aside0.mk hrow
  have HX := Aside0.mk hmax
  have HL := Aside0.mk hl
  clear hrow hl hmax hs0
  go_enter Try.func102, Try.ntmps102
  go_wp2
  go_loopg [9] l0.length (fun kq v9 w' => ∃ (i : Nat) (seen : List (List UInt8)), v9 = .int .i64 (i : Int) ∧ Aside0 (i + kq = l0.length) ∧ Aside0 (seen.length = i) ∧ Aside0 (∀ s, seen.count s + ((keysOf l0).drop i).count s = (keysOf l0).count s) ∧ Aside0 (Seen w' w.heap.size i seen) ∧ Aside0 (Kd.V (Kd.slice 33 k33) 22 w' w.heap.size (fun k_ => P0_ k_ ∧ k_ < w.heap.size) (.slice A0 l0.length c0) l0) ∧ Aside0 (Below w.heap.size w w'))
  case atStart => exact ⟨0, [], rfl, ⟨by simp⟩, ⟨rfl⟩, ⟨by simp⟩, ⟨Seen.start w⟩, ⟨Kd.V_alloc HO0.out _⟩, ⟨below_alloc HB.out _⟩⟩
  case round =>
    clear HB HO0
    obtain ⟨i, seen, rfl, HI, HS, HA, HD, HV, HB⟩ := hrel
    by_cases c2 : (i : Int) < (l0.length : Int)
    · have c2b : decide ((i : Int) < (l0.length : Int)) = true := decide_eq_true c2
      have p0 : (0 : Int) ≤ i := by omega
      obtain ⟨k1, rfl⟩ : ∃ k1, gk = k1 + 1 := ⟨gk - 1, by have := HI.out; omega⟩
      obtain ⟨ad, A1, c1, s, rfl, hs, hx1, hkey, hdrop, hcall⟩ := bytes_at HV.out i c2 HR.out HX.out
      have HBC := Aside0.mk hcall
      have HDR := Aside0.mk hdrop
      have p1 := eq_true p0
      have q1 := eq_true c2
      have hnl := HL.out
      have hcl : seen.count (ky s) ≤ seen.length := List.count_le_length
      have C3 := Aside0.mk (⟨hcl, HS.out, hnl, c2⟩ : seen.count (ky s) ≤ seen.length ∧ seen.length = i ∧ l0.length < 1000000000 ∧ (i : Int) < (l0.length : Int))
      have HK := Aside0.mk (show i < maxLen by unfold maxLen; omega)
      have HW := Aside0.mk (show wrap64 ((i : Int) + 1) = ((i + 1 : Nat) : Int) by unfold wrap64; omega)
      have HI' := Aside0.mk (show i + 1 + k1 = l0.length by have := HI.out; omega)
      clear hs hdrop hcall hnl hcl
      go_wp2_with fail
      refine HBC.out.mono ?_
      rintro e w1 ⟨rfl, hb⟩
      obtain ⟨D, hown, hIs, hcnt⟩ := (HD.out.below hb).own
      have HCN := Aside0.mk (⟨hcnt, hIs⟩ : (∀ s : List UInt8, D.atKey (.string s) (.lit (.int .i64 0)) = .lit (.int .i64 (seen.count s : Nat))) ∧ IsMap D)
      have HV1 := Aside0.mk (Kd.V_below HV.out hb)
      have HB1 := Aside0.mk (below_step HB.out hb)
      clear hb HV HB HD HBC hcnt hIs
      go_wp2_with (first
          | (at_lookup; refine wpList_lookup_own_int _ rfl _ _ 103 rfl 9 3 .i64 law9 Try.underlying103 Try.underlying3 (zero3m _) w.heap.size _ _ rfl hown _ _ rfl hkey ?_; intro c hat hwc; have HC1x := Aside0.mk (show wrap64 (c + 1) = ((ky s :: seen).count (ky s) : Nat) by (have h1 := hat.symm.trans (HCN.out.1 _); injection h1 with h1; injection h1 with _ h1; have h2 := C3.out; rw [List.count_cons_self, wrapM (by omega) (by omega)]; omega)); clear hat hwc)
          | (at_mapUpdate; refine wpList_mapUpdate_own _ rfl _ _ _ 103 rfl 9 3 law9 Try.underlying103 _ w.heap.size _ _ rfl hown HK.out _ _ _ rfl rfl hkey _ [] (plainElem_int Try.underlying3 (wrap64_wf _)) ?_; intro w2 hown1 hg1))
      have HPC := put_count HCN.out.2 HCN.out.1 HC1x.out
      have HD2 := Aside0.mk (Seen.mk ⟨_, hown1, HPC.1, HPC.2⟩)
      have HV2 := Aside0.mk (Kd.V_grown HV1.out hg1 (fun k hk he => by injection he with he; have := hk.2; omega))
      have HB2 := Aside0.mk (pw_below_grown HB1.out _ (below_size HB1.out) hg1 (fun k hk => by injection hk with hk; omega))
      have HA2 := Aside0.mk (show ∀ t, (ky s :: seen).count t + ((keysOf l0).drop (i + 1)).count t = (keysOf l0).count t from fun t => by
        have h1 := HA.out t
        rw [HDR.out, List.count_cons] at h1
        rw [List.count_cons]
        omega)
      go_roundg k1
      case measure => omega
      case rel => exact ⟨i + 1, ky s :: seen, by rw [HW.out], HI', ⟨by rw [List.length_cons, HS.out]⟩, HA2, HD2, HV2, HB2⟩
    · have c2b : decide ((i : Int) < (l0.length : Int)) = false := decide_eq_false c2
      have e13 : i = l0.length := by have := HI.out; omega
      subst e13
      have hA := HA.out
      rw [show l0.length = (keysOf l0).length by unfold keysOf; simp, List.drop_length] at hA
      have HA2 := Aside0.mk (show ∀ s, seen.count s = (keysOf l0).count s from fun s => by have := hA s; simpa using this)
      clear hA
      go_wp2
      go_ret
      exact ⟨rfl, seen, HD.out, HA2.out, HB.out⟩

set_option maxHeartbeats 4000000 in
set_option maxRecDepth 100000 in
theorem none_calls (s : ByteArray) (bx g n : Nat) (seen : List (List UInt8)) (w : World) (hs : s.size ≤ maxLen) (hbx : w.cell? ⟨bx, 0, none⟩ = some (.map (some g))) (hD : Seen w g n seen) :
    Calls Try.prog 103 #[.string s, .pointer (some ⟨bx, 0, none⟩)] w fun e w' => e = .returned (.bool (decide (seen.count (ky s) = 0))) ∧ Below w.heap.size w w' := by
  have HB := Aside0.mk (Below.refl w.heap.size w)
  have hkey : keyOf Try.prog 9 (.string s) = some (.string (ky s)) := WideMaps.keyOf_string_mk Try.underlying9 hs
  obtain ⟨D, hown, hIs, hcnt⟩ := hD.own
  have HCN := Aside0.mk hcnt
  clear hD hIs hs hcnt
  go_enter Try.func103, Try.ntmps103
  go_wp2_with (first
    | (at_lookup; refine wpList_lookup_own_int _ rfl _ _ 103 rfl 9 3 .i64 law9 Try.underlying103 Try.underlying3 (zero3m _) g _ _ rfl hown _ _ rfl hkey ?_; intro c hat hwc; have HC := Aside0.mk (show c = (seen.count (ky s) : Nat) by (have h1 := hat.symm.trans (HCN.out _); injection h1 with h1; injection h1)); clear hat hwc))
  go_ret
  refine ⟨?_, HB.out⟩
  have hc := HC.out
  have e : (c == 0) = decide (seen.count (ky s) = 0) := by
    rw [Bool.eq_iff_iff, beq_iff_eq, decide_eq_true_iff]; omega
  rw [← e]; rfl

set_option maxHeartbeats 4000000 in
set_option maxRecDepth 100000 in
theorem some_calls (s : ByteArray) (bx g n : Nat) (seen : List (List UInt8)) (w : World) (hs : s.size ≤ maxLen) (hbx : w.cell? ⟨bx, 0, none⟩ = some (.map (some g))) (hD : Seen w g n seen) :
    Calls Try.prog 104 #[.string s, .pointer (some ⟨bx, 0, none⟩)] w fun e w' => e = .returned (.bool (decide (0 < seen.count (ky s)))) ∧ Below w.heap.size w w' := by
  have HB := Aside0.mk (Below.refl w.heap.size w)
  have hkey : keyOf Try.prog 9 (.string s) = some (.string (ky s)) := WideMaps.keyOf_string_mk Try.underlying9 hs
  obtain ⟨D, hown, hIs, hcnt⟩ := hD.own
  have HCN := Aside0.mk hcnt
  clear hD hIs hs hcnt
  go_enter Try.func104, Try.ntmps104
  go_wp2_with (first
    | (at_lookup; refine wpList_lookup_own_int _ rfl _ _ 103 rfl 9 3 .i64 law9 Try.underlying103 Try.underlying3 (zero3m _) g _ _ rfl hown _ _ rfl hkey ?_; intro c hat hwc; have HC := Aside0.mk (show c = (seen.count (ky s) : Nat) by (have h1 := hat.symm.trans (HCN.out _); injection h1 with h1; injection h1)); clear hat hwc))
  go_ret
  refine ⟨?_, HB.out⟩
  have hc := HC.out
  have e : decide (c > 0) = decide (0 < seen.count (ky s)) := by
    rw [Bool.eq_iff_iff, decide_eq_true_iff, decide_eq_true_iff]; omega
  rw [← e]; rfl

set_option maxHeartbeats 8000000 in
set_option maxRecDepth 100000 in
theorem Except_calls (P0_ P1_ : Nat → Prop) (A0 : Option Addr) (c0 : Nat) (l0 : List (List (S33))) (A1 : Option Addr) (c1 : Nat) (l1 : List (List S33)) (w : World) (hs0 : Kd.V (Kd.slice 33 k33) 22 w w.heap.size (fun k_ => P0_ k_) (.slice A0 l0.length c0) l0)
    (hs1 : Kd.V (Kd.slice 33 k33) 22 w w.heap.size (fun k_ => P1_ k_) (.slice A1 l1.length c1) l1)
    (hl : l0.length < 1000000000) (hrow : ∀ r ∈ l0, r.length ≤ 9223372036854775807) (hmax : ∀ r ∈ l0, (bytesOfRow r).size ≤ maxLen)
    (hl1 : l1.length < 1000000000) (hrow1 : ∀ r ∈ l1, r.length ≤ 9223372036854775807) (hmax1 : ∀ r ∈ l1, (bytesOfRow r).size ≤ maxLen) :
    Calls Try.prog 64 #[.slice A0 l0.length c0, .slice A1 l1.length c1] w fun e w' => ∃ v0_ : Value, e = .returned (v0_) ∧ Kd.N (Kd.slice 33 k33) 22 w' w.heap.size (fun k_ => (P0_ k_ ∨ w.heap.size ≤ k_)) v0_ (keepL (fun s => decide ((keysOf l1).count (ky s) = 0)) [] l0) ∧ Below w.heap.size w w' := by
  obtain ⟨KK, hKK⟩ : ∃ K, K = keepL (fun s => decide ((keysOf l1).count (ky s) = 0)) [] l0 := ⟨_, rfl⟩
  rw [← hKK]
  have HKK := Aside0.mk hKK
  clear hKK
  have hmf : ∀ (fn : Fn) (first cap : Array Value) (w : World), (Instr.makeFunc fn first cap).run Try.prog w = .ok (.func fn first cap) w := fun _ _ _ _ => rfl
  have HM := Aside0.mk (met_calls P1_ A1 c1 l1 w hs1 hl1 hrow1 hmax1)
  have HV := Aside0.mk hs0
  have HL := Aside0.mk hl
  have HR := Aside0.mk hrow
  have HX := Aside0.mk hmax
  have HB := Aside0.mk (Below.refl w.heap.size w)
  clear hs0 hs1 hl hrow hmax hl1 hrow1 hmax1
  go_enter Try.func64, Try.ntmps64
  go_wp2_with fail
  refine HM.out.mono ?_
  rintro e w1 ⟨seen, rfl, hD, hcnt, hb⟩
  have hna : (w1.alloc (.cells #[.map none] 103)).heap[w1.heap.size]? = some (.cells #[.map none] 103 (0, 0)) := heap_alloc_new _ _
  have hca := cell_of_one hna
  have hfa := free_of_one hna
  have hD2 := hD.alloc (.cells #[.map (some w.heap.size)] 103)
  have hNF : (w1.alloc (.cells #[.map (some w.heap.size)] 103)).heap[w1.heap.size]? = some (.cells #[.map (some w.heap.size)] 103 (0, 0)) := heap_alloc_new _ _
  have hb2 := below_alloc hb (.cells #[.map (some w.heap.size)] 103)
  have HD := Aside0.mk hD2
  have HN := Aside0.mk hNF
  have HB2 := Aside0.mk hb2
  have HV2 := Aside0.mk (Kd.V_below HV.out hb2)
  have HC := Aside0.mk hcnt
  clear hD hcnt hb hD2 hNF hb2 hna HM HV
  go_wp2_with fail
  generalize (w1.alloc (.cells #[.map (some w.heap.size)] 103)) = W at HD HN HB2 HV2 ⊢
  have hmay : (fun s : ByteArray => decide (seen.count (ky s) = 0)) = (fun s : ByteArray => decide ((keysOf l1).count (ky s) = 0)) := by
    funext s
    rw [HC.out]
  refine (keep_calls 103 #[.pointer (some ⟨w1.heap.size, 0, none⟩)] (fun s => decide (seen.count (ky s) = 0)) P0_ A0 c0 l0 W HV2.out (by have := HL.out; omega) HR.out HX.out (fun s W1 => enter_of Try.func103 (by kernel_rfl) (by kernel_rfl) _ W1) (fun W1 s hs hW => ?_)).mono ?_
  · show Calls Try.prog 103 #[.string s, .pointer (some ⟨w1.heap.size, 0, none⟩)] W1 _
    exact none_calls s w1.heap.size w.heap.size _ seen W1 hs (cell_of_one ((hW.block _ (lt_of_block HN.out)).trans HN.out)) (HD.out.below hW)
  rintro e w3 ⟨v0, rfl, hn, hb⟩
  rw [hmay, ← HKK.out] at hn
  have HB3 := Aside0.mk (below_step HB2.out hb)
  have HN3 := Aside0.mk (Kd.N_lower (Kd.N_mono (ok' := fun k_ => P0_ k_ ∨ w.heap.size ≤ k_) hn (fun k hk => hk.imp (fun h => h) (fun h => Nat.le_trans (below_size HB2.out) h))) (below_size HB2.out))
  clear hn hb hmay HN HD HB2 HV2 HC
  obtain ⟨Ao, co, eo⟩ := Kd.N_slice HN3.out
  subst eo
  go_wp2
  go_ret
  exact ⟨_, rfl, HN3.out, HB3.out⟩

set_option maxHeartbeats 8000000 in
set_option maxRecDepth 100000 in
theorem Intersect_calls (P0_ P1_ : Nat → Prop) (A0 : Option Addr) (c0 : Nat) (l0 : List (List (S33))) (A1 : Option Addr) (c1 : Nat) (l1 : List (List S33)) (w : World) (hs0 : Kd.V (Kd.slice 33 k33) 22 w w.heap.size (fun k_ => P0_ k_) (.slice A0 l0.length c0) l0)
    (hs1 : Kd.V (Kd.slice 33 k33) 22 w w.heap.size (fun k_ => P1_ k_) (.slice A1 l1.length c1) l1)
    (hl : l0.length < 1000000000) (hrow : ∀ r ∈ l0, r.length ≤ 9223372036854775807) (hmax : ∀ r ∈ l0, (bytesOfRow r).size ≤ maxLen)
    (hl1 : l1.length < 1000000000) (hrow1 : ∀ r ∈ l1, r.length ≤ 9223372036854775807) (hmax1 : ∀ r ∈ l1, (bytesOfRow r).size ≤ maxLen) :
    Calls Try.prog 66 #[.slice A0 l0.length c0, .slice A1 l1.length c1] w fun e w' => ∃ v0_ : Value, e = .returned (v0_) ∧ Kd.N (Kd.slice 33 k33) 22 w' w.heap.size (fun k_ => (P0_ k_ ∨ w.heap.size ≤ k_)) v0_ (keepL (fun s => decide (0 < (keysOf l1).count (ky s))) [] l0) ∧ Below w.heap.size w w' := by
  obtain ⟨KK, hKK⟩ : ∃ K, K = keepL (fun s => decide (0 < (keysOf l1).count (ky s))) [] l0 := ⟨_, rfl⟩
  rw [← hKK]
  have HKK := Aside0.mk hKK
  clear hKK
  have hmf : ∀ (fn : Fn) (first cap : Array Value) (w : World), (Instr.makeFunc fn first cap).run Try.prog w = .ok (.func fn first cap) w := fun _ _ _ _ => rfl
  have HM := Aside0.mk (met_calls P1_ A1 c1 l1 w hs1 hl1 hrow1 hmax1)
  have HV := Aside0.mk hs0
  have HL := Aside0.mk hl
  have HR := Aside0.mk hrow
  have HX := Aside0.mk hmax
  have HB := Aside0.mk (Below.refl w.heap.size w)
  clear hs0 hs1 hl hrow hmax hl1 hrow1 hmax1
  go_enter Try.func66, Try.ntmps66
  go_wp2_with fail
  refine HM.out.mono ?_
  rintro e w1 ⟨seen, rfl, hD, hcnt, hb⟩
  have hna : (w1.alloc (.cells #[.map none] 103)).heap[w1.heap.size]? = some (.cells #[.map none] 103 (0, 0)) := heap_alloc_new _ _
  have hca := cell_of_one hna
  have hfa := free_of_one hna
  have hD2 := hD.alloc (.cells #[.map (some w.heap.size)] 103)
  have hNF : (w1.alloc (.cells #[.map (some w.heap.size)] 103)).heap[w1.heap.size]? = some (.cells #[.map (some w.heap.size)] 103 (0, 0)) := heap_alloc_new _ _
  have hb2 := below_alloc hb (.cells #[.map (some w.heap.size)] 103)
  have HD := Aside0.mk hD2
  have HN := Aside0.mk hNF
  have HB2 := Aside0.mk hb2
  have HV2 := Aside0.mk (Kd.V_below HV.out hb2)
  have HC := Aside0.mk hcnt
  clear hD hcnt hb hD2 hNF hb2 hna HM HV
  go_wp2_with fail
  generalize (w1.alloc (.cells #[.map (some w.heap.size)] 103)) = W at HD HN HB2 HV2 ⊢
  have hmay : (fun s : ByteArray => decide (0 < seen.count (ky s))) = (fun s : ByteArray => decide (0 < (keysOf l1).count (ky s))) := by
    funext s
    rw [HC.out]
  refine (keep_calls 104 #[.pointer (some ⟨w1.heap.size, 0, none⟩)] (fun s => decide (0 < seen.count (ky s))) P0_ A0 c0 l0 W HV2.out (by have := HL.out; omega) HR.out HX.out (fun s W1 => enter_of Try.func104 (by kernel_rfl) (by kernel_rfl) _ W1) (fun W1 s hs hW => ?_)).mono ?_
  · show Calls Try.prog 104 #[.string s, .pointer (some ⟨w1.heap.size, 0, none⟩)] W1 _
    exact some_calls s w1.heap.size w.heap.size _ seen W1 hs (cell_of_one ((hW.block _ (lt_of_block HN.out)).trans HN.out)) (HD.out.below hW)
  rintro e w3 ⟨v0, rfl, hn, hb⟩
  rw [hmay, ← HKK.out] at hn
  have HB3 := Aside0.mk (below_step HB2.out hb)
  have HN3 := Aside0.mk (Kd.N_lower (Kd.N_mono (ok' := fun k_ => P0_ k_ ∨ w.heap.size ≤ k_) hn (fun k hk => hk.imp (fun h => h) (fun h => Nat.le_trans (below_size HB2.out) h))) (below_size HB2.out))
  clear hn hb hmay HN HD HB2 HV2 HC
  obtain ⟨Ao, co, eo⟩ := Kd.N_slice HN3.out
  subst eo
  go_wp2
  go_ret
  exact ⟨_, rfl, HN3.out, HB3.out⟩
end Go.Proofs.Ythghflgmeepnlaa.Pa
namespace Go.Proofs.Ythghflgmeepnlaa.Pa
open Go.RowKit Go.Proofs.YthghflgmeepnlaaW.PrintWords Go.Proofs.YthghflgmeepnlaaW.PrintLast Go.Proofs.YthghflgmeepnlaaW.PrintMore
set_option linter.unusedVariables false
set_option linter.unusedSimpArgs false

set_option maxHeartbeats 8000000 in
set_option maxRecDepth 100000 in
theorem Clone_calls (P0_ : Nat → Prop) (A0 : Option Addr) (c0 : Nat) (l0 : List (List (S33))) (w : World) (hs0 : Kd.V (Kd.slice 33 k33) 22 w w.heap.size (fun k_ => P0_ k_) (.slice A0 l0.length c0) l0) (hl : l0.length < 1000000000) :
    Calls Try.prog 101 #[.slice A0 l0.length c0] w fun e w' => ∃ v0_ : Value, e = .returned (v0_) ∧ Kd.N (Kd.slice 33 k33) 22 w' w.heap.size (fun k_ => P0_ k_ ∨ w.heap.size ≤ k_) v0_ l0 ∧ Below w.heap.size w w' := by
  have hq : ∀ (a : Option Addr) (n c : Nat) (W : World), (binOp .eql 58 (.slice a n c) (.slice none 0 0)).run Try.prog W = .ok (.bool a.isNone) W := fun a n c W => Go.Lib.run_eql_slice_nil W 58 22 a n c 0 0 Try.underlying58
  have HV := Aside0.mk (Kd.V_bound hs0)
  have HL := Aside0.mk hl
  have HB := Aside0.mk (Below.refl w.heap.size w)
  clear hs0 hl
  cases A0 with
  | none =>
    have h0 : l0 = [] := by
      by_cases h : 0 < l0.length
      · obtain ⟨ad, e, _⟩ := (Kd.V_reads' HV.out).2.2.2.2 h
        cases e
      · exact List.eq_nil_of_length_eq_zero (by omega)
    subst h0
    go_enter Try.func101, Try.ntmps101
    go_wp2
    go_ret
    exact ⟨_, rfl, Kd.N_nil _ _ _ _ _, HB.out⟩
  | some ad =>
    go_enter Try.func101, Try.ntmps101
    go_wp2_with (first
      | ((with_reducible refine gate_dst (N := 5) rfl ?_); refine Kd.N_lit (Kd.slice 33 k33) (w0 := w) w.heap.size 22 ?hg (N' := 5) ?hd (xs := ([] : List (List S33))) (inner := []) (ok := (fun k_ => (P0_ k_ ∧ k_ < w.heap.size) ∨ w.heap.size ≤ k_)) (okp := fun _ => False) ?hr (Reps.none _ _) (fun _ h => h.elim) (.inr (Nat.le_refl _)) HB.out (Nat.le_refl _) (by simp) ?_; (case hd => rfl); (case hg => rfl); (case hr => first | (go_simp; done) | (go_simp; rfl)); intro v1 w1 ho hb hg_ hnew_; have HN := Aside0.mk ho; have HB1 := Aside0.mk hb; have HV1 := Aside0.mk (Kd.V_below HV.out hb); (obtain ⟨Ao, co, eo⟩ := Kd.N_slice ho); subst eo; clear ho hb hg_ hnew_)
      | ((with_reducible refine gate_builtin (b := .append) (xs := #[.tmp 5, .tmp 6]) rfl ?_); at_builtin; refine Kd.N_append_rows (Kd.slice 33 k33) (w0 := w) w.heap.size rfl (.tmp 5) (.tmp 6) 58 22 (.slice none 0 0) 24 rfl Try.underlying58 info22 rfl (by decide) (by omega) (.slice Ao 0 co) ([] : List (List S33)) l0 (some ad) l0.length c0 (fun k_ => (P0_ k_ ∧ k_ < w.heap.size) ∨ w.heap.size ≤ k_) (fun k_ => P0_ k_ ∧ k_ < w.heap.size) rfl rfl ?aO ?aR ?aK ?aF HB1.out (below_size HB1.out) ?aL ?_; (case aO => exact HN.out); (case aR => exact Kd.V_F HV1.out); (case aK => exact (fun k hk => ⟨.inl hk, fun he => by have h1 := N_base HN.out k he.symm; have h2 := hk.2; omega⟩)); (case aF => exact (fun k hk => .inr (Nat.le_trans (below_size HB1.out) hk))); (case aL => have := HL.out; simp; omega); intro v2 w2 ho hb hg hat; have HN2 := Aside0.mk ho; have HB2 := Aside0.mk hb; (obtain ⟨Ap, cp, ep⟩ := Kd.N_slice ho); subst ep; clear ho hb hg hat))
    go_ret
    exact ⟨_, rfl, Kd.N_mono HN2.out (fun k hk => hk.imp (fun h => h.1) (fun h => h)), HB2.out⟩

set_option maxHeartbeats 8000000 in
set_option maxRecDepth 100000 in
theorem Union_calls (P0_ P1_ : Nat → Prop) (A0 : Option Addr) (c0 : Nat) (l0 : List (List (S33))) (A1 : Option Addr) (c1 : Nat) (l1 : List (List S33)) (w : World) (hs0 : Kd.V (Kd.slice 33 k33) 22 w w.heap.size (fun k_ => P0_ k_) (.slice A0 l0.length c0) l0)
    (hs1 : Kd.V (Kd.slice 33 k33) 22 w w.heap.size (fun k_ => P1_ k_) (.slice A1 l1.length c1) l1)
    (hl : l0.length < 1000000000) (hrow : ∀ r ∈ l0, r.length ≤ 9223372036854775807) (hmax : ∀ r ∈ l0, (bytesOfRow r).size ≤ maxLen)
    (hl1 : l1.length < 1000000000) (hrow1 : ∀ r ∈ l1, r.length ≤ 9223372036854775807) (hmax1 : ∀ r ∈ l1, (bytesOfRow r).size ≤ maxLen) :
    Calls Try.prog 63 #[.slice A0 l0.length c0, .slice A1 l1.length c1] w fun e w' => ∃ v0_ : Value, e = .returned (v0_) ∧ Kd.N (Kd.slice 33 k33) 22 w' w.heap.size (fun k_ => (P0_ k_ ∨ P1_ k_) ∨ w.heap.size ≤ k_) v0_ (distinctL (l0 ++ l1)) ∧ Below w.heap.size w w' := by
  have HC := Aside0.mk (Clone_calls P0_ A0 c0 l0 w hs0 hl)
  have HV := Aside0.mk (Kd.V_bound hs1)
  have HL := Aside0.mk (⟨hl, hl1⟩ : l0.length < 1000000000 ∧ l1.length < 1000000000)
  have HR := Aside0.mk (show ∀ r ∈ l0 ++ l1, r.length ≤ 9223372036854775807 from fun r hr => (List.mem_append.1 hr).elim (hrow r) (hrow1 r))
  have HX := Aside0.mk (show ∀ r ∈ l0 ++ l1, (bytesOfRow r).size ≤ maxLen from fun r hr => (List.mem_append.1 hr).elim (hmax r) (hmax1 r))
  obtain ⟨x, hx⟩ : ∃ x, x = l0 ++ l1 := ⟨_, rfl⟩
  have HXX := Aside0.mk hx
  rw [← hx] at HR HX ⊢
  clear hs0 hs1 hl hrow hmax hl1 hrow1 hmax1 hx
  go_enter Try.func63, Try.ntmps63
  go_wp2_with fail
  refine HC.out.mono ?_
  rintro e w1 ⟨v0, rfl, hn, hb⟩
  have HN := Aside0.mk (Kd.N_mono (ok' := fun k_ => (P0_ k_ ∨ P1_ k_) ∨ w.heap.size ≤ k_) hn (fun k hk => hk.imp (fun h => .inl h) (fun h => h)))
  have HB1 := Aside0.mk hb
  have HV1 := Aside0.mk (Kd.V_below HV.out hb)
  obtain ⟨Ao, co, eo⟩ := Kd.N_slice hn
  subst eo
  clear hn hb HC HV
  go_wp2_with ((with_reducible refine gate_builtin (b := .append) (xs := #[.tmp 6, .tmp 7]) rfl ?_); at_builtin; refine Kd.N_append_rows (Kd.slice 33 k33) (w0 := w) w.heap.size rfl (.tmp 6) (.tmp 7) 58 22 (.slice none 0 0) 24 rfl Try.underlying58 info22 rfl (by decide) (by omega) (.slice Ao l0.length co) l0 l1 A1 l1.length c1 (fun k_ => (P0_ k_ ∨ P1_ k_) ∨ w.heap.size ≤ k_) (fun k_ => P1_ k_ ∧ k_ < w.heap.size) rfl rfl ?aO ?aR ?aK ?aF HB1.out (below_size HB1.out) ?aL ?_; (case aO => exact HN.out); (case aR => exact Kd.V_F HV1.out); (case aK => exact (fun k hk => ⟨.inl (.inr hk.1), fun he => by have h1 := N_base HN.out k he.symm; have h2 := hk.2; omega⟩)); (case aF => exact (fun k hk => .inr (Nat.le_trans (below_size HB1.out) hk))); (case aL => have := HL.out; omega); intro v2 w2 ho hb hg hat; rw [← HXX.out] at ho; have HN2 := Aside0.mk ho; have HB2 := Aside0.mk hb; (obtain ⟨Ap, cp, ep⟩ := Kd.N_slice ho); subst ep; clear ho hb hg hat HN HB1 HV1)
  have hxl : x.length < 4000000000000 := by rw [HXX.out, List.length_append]; have := HL.out; omega
  refine (rows_Distinct_calls (fun k_ => (P0_ k_ ∨ P1_ k_) ∨ w.heap.size ≤ k_) Ap cp x w2 (Kd.N_V HN2.out) hxl HR.out HX.out).mono ?_
  rintro e w3 ⟨v3, rfl, hn, hb⟩
  have HN3 := Aside0.mk (Kd.N_lower (Kd.N_mono (ok' := fun k_ => (P0_ k_ ∨ P1_ k_) ∨ w.heap.size ≤ k_) hn (fun k hk => hk.elim (fun h => h) (fun h => .inr (Nat.le_trans (below_size HB2.out) h)))) (below_size HB2.out))
  have HB3 := Aside0.mk (below_step HB2.out hb)
  obtain ⟨Aq, cq, eq⟩ := Kd.N_slice hn
  subst eq
  clear hn hb hxl HN2 HB2 HR HX HL
  go_wp2
  go_ret
  exact ⟨_, rfl, HN3.out, HB3.out⟩
end Go.Proofs.Ythghflgmeepnlaa.Pa
