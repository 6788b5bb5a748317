/- What RowsOrder hangs on, part 3 of 4: our texts put together by trim.py, without what the proof does not need. -/
import Derived.Test.YthghflgmeepnlaaZO2
import Derived.Laws.Bits64
import Derived.Test.YthghflgmeepnlaaZO1
import Derived.WalkLawsBesides
section
namespace Go.Proofs.Ythghflgmeepnlaa.Pa
open Go.RowKit Go.Proofs.YthghflgmeepnlaaW.PrintWords Go.Proofs.YthghflgmeepnlaaW.PrintLast Go.Proofs.YthghflgmeepnlaaW.PrintMore
set_option linter.unusedVariables false
set_option linter.unusedSimpArgs false
theorem half_wrap {i j s h : Nat} (hs : s = i + j) (hh : h = s / 2) (hz : s < 4611686018427387904) : wrap64 ((i : Int) + (j : Int)) = (s : Int) ∧ IntKind.u64.wrap (s : Int) = (s : Int) ∧ wrap64 ((s : Int) / 2) = (h : Int) :=
  ⟨wrap_sum hs hz, by rw [IntKind.wrap_u64]; omega, by unfold wrap64; omega⟩
set_option maxHeartbeats 8000000 in
set_option maxRecDepth 1000000 in
theorem sym_left {fk : Nat} {caps : Array Value} {cf : Nat → Nat → Int} {N g : Nat} (ho : OrdP cf) (P Y R : List Nat) (x a m b L cap : Nat) (w : World) (hc : CmpOk fk caps cf N g w) (hh : HoldI w g (P ++ (x :: (Y ++ R))))
    (ha : a = P.length) (hm : m = a + 1) (hb : b = m + Y.length) (hL : L = a + 1 + Y.length + R.length) (hsz : L < 1000000000) (hY : Y.Pairwise (ltP cf)) (hlt : ∀ y ∈ Y, x < y) (hN : x < N ∧ ∀ y ∈ Y, y < N) :
    Calls Try.prog 115 #[.slice (some ⟨g, 0, none⟩) L cap, .int .i64 a, .int .i64 m, .int .i64 b, .func (.func fk) #[] caps] w fun e w' => e = .returned (.tuple #[]) ∧ w.grownBy w' (some g) ∧ ∃ Z, Z.Perm (x :: Y) ∧ Z.Pairwise (ltP cf) ∧ HoldI w' g (P ++ (Z ++ R)) := by
  have HH := Aside0.mk hh
  have HG := Aside0.mk (show w.grownBy w (some g) from ⟨rfl, rfl, rfl, Nat.le_refl _, fun _ _ _ => rfl⟩)
  have HC := Aside0.mk hc.call
  have hcf := hc.enter
  have NM := Aside0.mk (⟨ha, hm, hb, hL, hsz⟩ : a = P.length ∧ m = a + 1 ∧ b = m + Y.length ∧ L = a + 1 + Y.length + R.length ∧ L < 1000000000)
  have HN := Aside0.mk hN
  have HYA := Aside0.mk hY
  have HLT := Aside0.mk hlt
  have d1 : wrap64 ((m : Int) - (a : Int)) = 1 := by have := wrap_dif (x := m) (y := a) (z := 1) (by omega) (by omega); simpa using this
  have d1' : IntKind.i64.wrap ((m : Int) - (a : Int)) = 1 := by have := wrap_difK (x := m) (y := a) (z := 1) (by omega) (by omega); simpa using this
  clear hc hh ha hm hb hL hsz hN hY hlt
  go_enter Try.func115, Try.ntmps115
  go_wp2
  go_loopg [10, 11] (b - m) (fun kq v10 v11 wr => ∃ (i j : Nat), v10 = .int .i64 (i : Int) ∧ v11 = .int .i64 (j : Int) ∧ Aside0 (m ≤ i ∧ i ≤ j ∧ j ≤ b ∧ j - i ≤ kq) ∧ Aside0 ((i = m ∨ cf (Y.getD (i - 1 - m) 0) x < 0) ∧ (j = b ∨ ¬ cf (Y.getD (j - m) 0) x < 0)) ∧ Aside0 (HoldI wr g (P ++ (x :: (Y ++ R)))) ∧ Aside0 (w.grownBy wr (some g)))
  case atStart => exact ⟨m, b, rfl, rfl, ⟨by have := NM.out; omega⟩, ⟨.inl rfl, .inl rfl⟩, HH, HG⟩
  case round =>
    clear HH HG d1 d1'
    obtain ⟨i, j, rfl, rfl, HI, HBD, HH, HG⟩ := hrel
    by_cases cij : i < j
    · have cij1 : (i : Int) < (j : Int) := by omega
      have cij2 : decide ((i : Int) < (j : Int)) = true := decide_eq_true cij1
      obtain ⟨k1, rfl⟩ : ∃ k1, gk = k1 + 1 := ⟨gk - 1, by have := HI.out; omega⟩
      obtain ⟨s, hs⟩ : ∃ s, s = i + j := ⟨_, rfl⟩
      obtain ⟨h, hh⟩ : ∃ h, h = s / 2 := ⟨_, rfl⟩
      have hsb : s < 4611686018427387904 := by have h1 := HI.out; have h2 := NM.out; omega
      have HR := Aside0.mk (show i ≤ h ∧ h < j by omega)
      have hmh : m ≤ h ∧ h < L := by have h1 := HI.out; have h2 := NM.out; omega
      obtain ⟨q, hq⟩ : ∃ q, h = m + q := ⟨h - m, by omega⟩
      have hql : q < Y.length := by have h1 := HI.out; have h2 := NM.out; omega
      obtain ⟨y, hy⟩ : ∃ y, Y[q]? = some y := ⟨Y[q], List.getElem?_eq_getElem hql⟩
      have hyD : Y.getD q 0 = y := by rw [List.getD_eq_getElem?_getD, hy]; rfl
      have gh : (P ++ (x :: (Y ++ R)))[h]? = some y := by
        have e : P ++ (x :: (Y ++ R)) = (P ++ [x]) ++ (Y ++ R) := by simp
        have l1 : (P ++ [x]).length = m := by rw [List.length_append]; have := NM.out; simp; omega
        rw [e, hq, List.getElem?_append_right (by omega), l1, show m + q - m = q by omega, List.getElem?_append_left hql]
        exact hy
      have gx : (P ++ (x :: (Y ++ R)))[a]? = some x := by rw [NM.out.1]; exact get_mid _ _ _
      have ch := HH.out.cell gh
      have cx := HH.out.cell gx
      have hyN := HN.out.2 y (List.mem_of_getElem? hy)
      have hxN := HN.out.1
      have HQ := Aside0.mk (⟨hq, hyD⟩ : h = m + q ∧ Y.getD q 0 = y)
      have z1 : (h : Int) < (L : Int) := by omega
      have z2 : (0 : Int) ≤ (h : Int) := by omega
      have z3 : (a : Int) < (L : Int) := by have := NM.out; omega
      have z4 : (0 : Int) ≤ (a : Int) := by omega
      have HW := Aside0.mk (show wrap64 ((h : Int) + 1) = ((h + 1 : Nat) : Int) from wrap_one (by have := NM.out; omega))
      have hwr := half_wrap hs hh hsb
      obtain ⟨w1, w2, w3⟩ := hwr
      clear hs hh hsb hmh hq hql hy hyD gh gx
      by_cases ct : cf y x < 0
      · have ct1 : decide (cf y x < 0) = true := decide_eq_true ct
        go_wp2_with fail
        go_region_held3 (fun w' => w'.cell? ⟨g, h, none⟩ = some (enN y) ∧ w'.cell? ⟨g, a, none⟩ = some (enN x))
          (first | go_keep | (refine ⟨?_, ?_⟩ <;> refine pw_cell_below hbl ?_ <;> first | assumption | (simp only [*]; done)))
          (first | (refine (HC.out _ y x (by first | exact HG.out | exact gr_drew HG.out) hyN hxN).mono ?_; rintro e w' ⟨rfl, hbl⟩; have n0_ := Aside0.mk (gr_below (by first | exact HG.out | exact gr_drew HG.out) hbl); have n1_ := Aside0.mk (HoldI.below (by first | exact HH.out | exact HH.out.drew) hbl); clear HG HH; have HG := n0_; have HH := n1_; clear n0_ n1_))
        clear ch cx w1 w2 w3
        go_wp2
        go_roundg k1
        case measure => omega
        case rel => exact ⟨h + 1, j, by first | rw [HW.out] | rfl | go_num, rfl, ⟨by have h1 := HI.out; have h2 := HR.out; omega⟩, ⟨.inr (by rw [show h + 1 - 1 - m = q by have := HQ.out.1; omega, HQ.out.2]; exact ct), HBD.out.2⟩, HH, HG⟩
      · have ct1 : decide (cf y x < 0) = false := decide_eq_false ct
        go_wp2_with fail
        go_region_held3 (fun w' => w'.cell? ⟨g, h, none⟩ = some (enN y) ∧ w'.cell? ⟨g, a, none⟩ = some (enN x))
          (first | go_keep | (refine ⟨?_, ?_⟩ <;> refine pw_cell_below hbl ?_ <;> first | assumption | (simp only [*]; done)))
          (first | (refine (HC.out _ y x (by first | exact HG.out | exact gr_drew HG.out) hyN hxN).mono ?_; rintro e w' ⟨rfl, hbl⟩; have n0_ := Aside0.mk (gr_below (by first | exact HG.out | exact gr_drew HG.out) hbl); have n1_ := Aside0.mk (HoldI.below (by first | exact HH.out | exact HH.out.drew) hbl); clear HG HH; have HG := n0_; have HH := n1_; clear n0_ n1_))
        clear ch cx w1 w2 w3
        go_wp2
        go_roundg k1
        case measure => omega
        case rel => exact ⟨i, h, rfl, rfl, ⟨by have h1 := HI.out; have h2 := HR.out; omega⟩, ⟨HBD.out.1, .inr (by rw [show h - m = q by have := HQ.out.1; omega, HQ.out.2]; exact ct)⟩, HH, HG⟩
    · have cij1 : ¬ (i : Int) < (j : Int) := by omega
      have cij2 : decide ((i : Int) < (j : Int)) = false := decide_eq_false cij1
      have eij : i = j := by have := HI.out; omega
      subst eij
      obtain ⟨t, ht⟩ : ∃ t, i = m + t := ⟨i - m, by have := HI.out; omega⟩
      have HT := Aside0.mk (⟨ht, by have h1 := HI.out; have h2 := NM.out; omega⟩ : i = m + t ∧ t ≤ Y.length)
      have HZ := Aside0.mk (show (Y.take t ++ x :: Y.drop t).Perm (x :: Y) ∧ (Y.take t ++ x :: Y.drop t).Pairwise (ltP cf) by
        have hb := HBD.out
        have hY' := HYA.out
        have hlt' := HLT.out
        have get : ∀ k, k < Y.length → Y[k]? = some (Y.getD k 0) := fun k hk => by rw [List.getD_eq_getElem?_getD, List.getElem?_eq_getElem hk]; rfl
        refine ⟨?_, put_ok (by rw [List.take_append_drop]; exact hY') (fun u hu => ?_) (fun v hv => ?_)⟩
        · have := List.perm_middle (a := x) (l₁ := Y.take t) (l₂ := Y.drop t)
          rwa [List.take_append_drop] at this
        · refine split_ok ho hY' (by simp : [x].Pairwise (ltP cf)) t 0 HT.out.2 (by simp) ?_ u hu x (by simp)
          rcases hb.1 with q | q
          · left; have := HT.out.1; omega
          · by_cases t0 : t = 0
            · exact .inl t0
            · right; right
              refine ⟨_, x, get (t - 1) (by have := HT.out; omega), rfl, ?_⟩
              rw [show i - 1 - m = t - 1 by have := HT.out; omega] at q
              exact .inl q
        · refine split_ok ho (by simp : [x].Pairwise (ltP cf)) hY' 1 t (by simp) HT.out.2 ?_ x (by simp) v hv
          rcases hb.2 with q | q
          · right; left; have h1 := HT.out.1; have h2 := NM.out; omega
          · by_cases t0 : t = Y.length
            · exact .inr (.inl t0)
            · right; right
              refine ⟨x, _, rfl, get t (by have := HT.out; omega), ?_⟩
              rw [show i - m = t by have := HT.out; omega] at q
              exact ltP_forth ho (hlt' _ (List.mem_of_getElem? (get t (by have := HT.out; omega)))) q)
      have lT : (Y.take t).length = t := by rw [List.length_take]; have := HT.out; omega
      obtain ⟨Y1, hY1⟩ : ∃ Y1, Y1 = Y.take t := ⟨_, rfl⟩
      obtain ⟨Y2, hY2⟩ : ∃ Y2, Y2 = Y.drop t := ⟨_, rfl⟩
      have HY12 := Aside0.mk (show Y = Y1 ++ Y2 by rw [hY1, hY2]; exact (List.take_append_drop t Y).symm)
      rw [← hY1, ← hY2] at HZ
      rw [← hY1] at lT
      have LT := Aside0.mk lT
      have HH1 := Aside0.mk (show HoldI wr g (P ++ ([] ++ (x :: (Y1 ++ (Y2 ++ R))))) by
        have e : P ++ ([] ++ (x :: (Y1 ++ (Y2 ++ R)))) = P ++ (x :: (Y ++ R)) := by rw [HY12.out]; simp
        rw [e]; exact HH.out)
      have NL := Aside0.mk (show a + 1 + t + Y2.length + R.length = L ∧ L < 1000000000 by
        have h1 := congrArg List.length HY12.out
        have h2 := NM.out
        rw [List.length_append, lT] at h1
        omega)
      have HE := Aside0.mk (show i = a + 1 + t by have h1 := HT.out; have h2 := NM.out; omega)
      clear hY1 hY2 lT HH HT HBD HI
      obtain ⟨i1, hi1⟩ : ∃ i1, i1 = a + t := ⟨_, rfl⟩
      have HI1 := Aside0.mk hi1
      have wi : wrap64 ((i : Int) - 1) = (i1 : Int) := by have := wrap_dif (x := i) (y := 1) (z := i1) (by have := HE.out; omega) (by have h1 := HE.out; have h2 := NL.out; omega); simpa using this
      clear ht hi1
      go_wp2_with fail
      go_loopg [13] t (fun kq v13 wr => ∃ (k : Nat) (U V : List Nat), v13 = .int .i64 (k : Int) ∧ Aside0 (k = a + U.length ∧ Y1 = U ++ V ∧ V.length ≤ kq) ∧ Aside0 (HoldI wr g (P ++ (U ++ (x :: (V ++ (Y2 ++ R)))))) ∧ Aside0 (w.grownBy wr (some g)))
      case atStart => exact ⟨a, [], Y1, rfl, ⟨by simp, by simp, by rw [LT.out]; exact Nat.le_refl _⟩, HH1, HG⟩
      case round =>
        clear HH1 HG
        obtain ⟨k, U, V, rfl, HK, HH, HG⟩ := hrel
        have HUV := Aside0.mk (show U.length + V.length = t by
          have h1 := congrArg List.length HK.out.2.1
          rw [LT.out, List.length_append] at h1
          exact h1.symm)
        by_cases ck : k < i1
        · have ck1 : (k : Int) < (i1 : Int) := by omega
          obtain ⟨v, V', eV⟩ : ∃ v V', V = v :: V' := by
            cases V with
            | nil => have h1 := HUV.out; have h2 := HK.out; have h3 := HI1.out; simp at h1; omega
            | cons v V' => exact ⟨v, V', rfl⟩
          subst eV
          obtain ⟨k1, rfl⟩ : ∃ k1, gk = k1 + 1 := ⟨gk - 1, by have := HK.out.2.2; simp at this; omega⟩
          have e1 : P ++ (U ++ (x :: (v :: V' ++ (Y2 ++ R)))) = (P ++ U) ++ x :: v :: (V' ++ (Y2 ++ R)) := by simp
          have l1 : (P ++ U).length = k := by rw [List.length_append]; have h1 := HK.out.1; have h2 := NM.out.1; omega
          obtain ⟨k2, hk2⟩ : ∃ k2, k2 = k + 1 := ⟨_, rfl⟩
          have gk0 : (P ++ (U ++ (x :: (v :: V' ++ (Y2 ++ R)))))[k]? = some x := by rw [e1, ← l1]; exact get_mid _ _ _
          have gk2 : (P ++ (U ++ (x :: (v :: V' ++ (Y2 ++ R)))))[k2]? = some v := by
            have e2 : P ++ (U ++ (x :: (v :: V' ++ (Y2 ++ R)))) = (P ++ (U ++ [x])) ++ v :: (V' ++ (Y2 ++ R)) := by simp
            have l2 : (P ++ (U ++ [x])).length = k2 := by rw [List.length_append, List.length_append]; rw [List.length_append] at l1; simp; omega
            rw [e2, ← l2]; exact get_mid _ _ _
          have ck0 := HH.out.cell gk0
          have ck2 := HH.out.cell gk2
          have fk0 := HH.out.free k
          have fk2 := HH.out.free k2
          have s1 : ((P ++ (U ++ (x :: (v :: V' ++ (Y2 ++ R))))).set k v).set k2 x = P ++ ((U ++ [v]) ++ (x :: (V' ++ (Y2 ++ R)))) := by
            have e3 : (P ++ U) ++ v :: v :: (V' ++ (Y2 ++ R)) = (P ++ (U ++ [v])) ++ v :: (V' ++ (Y2 ++ R)) := by simp
            have l3 : (P ++ (U ++ [v])).length = k2 := by rw [List.length_append, List.length_append]; rw [List.length_append] at l1; simp; omega
            rw [e1, ← l1, set_mid, e3, ← l3, set_mid]
            simp
          have hs := HoldI.set (HoldI.set HH.out k v) k2 x
          rw [s1] at hs
          have HS := Aside0.mk hs
          have HGS := Aside0.mk (gr_set (j := k2) (gr_set (j := k) HG.out (enN v)) (enN x))
          have z1 : (k : Int) < (L : Int) := by have h1 := NL.out; have h2 := HI1.out; omega
          have z2 : (k2 : Int) < (L : Int) := by have h1 := NL.out; have h2 := HI1.out; omega
          have z3 : (0 : Int) ≤ (k : Int) := by omega
          have z4 : (0 : Int) ≤ (k2 : Int) := by omega
          have hne : k ≠ k2 := by omega
          have HKN := Aside0.mk (show k2 = a + (U ++ [v]).length ∧ Y1 = (U ++ [v]) ++ V' ∧ V'.length ≤ k1 by
            have h1 := HK.out
            refine ⟨by rw [List.length_append]; simp; omega, by rw [h1.2.1]; simp, by have := h1.2.2; simp at this; omega⟩)
          have HK2 := Aside0.mk hk2
          have wk : wrap64 ((k : Int) + 1) = (k2 : Int) := by have := wrap_one (x := k) (by have h1 := NL.out; omega); rw [this, hk2]
          have wk' : IntKind.i64.wrap ((k : Int) + 1) = (k2 : Int) := by have := wrap_sumK (x := k) (y := 1) (z := k2) hk2 (by have h1 := NL.out; omega); simpa using this
          clear e1 l1 gk0 gk2 s1 hs hk2
          go_wp2_with fail
          go_region
          all_goals go_wp2
          clear wk wk' z1 z2 z3 z4 hne
          go_roundg k1
          case measure => omega
          case rel => exact ⟨k2, U ++ [v], V', rfl, HKN, ⟨by first | exact HS.out | exact HS.out.drew⟩, ⟨by first | exact HGS.out | exact gr_drew HGS.out⟩⟩
        · have ck1 : ¬ (k : Int) < (i1 : Int) := by omega
          have eV : V = [] := List.eq_nil_of_length_eq_zero (by have h1 := HUV.out; have h2 := HK.out.1; have h3 := HI1.out; omega)
          have HF := Aside0.mk (show HoldI wr g (P ++ ((Y1 ++ x :: Y2) ++ R)) by
            have e : P ++ ((Y1 ++ x :: Y2) ++ R) = P ++ (U ++ (x :: (V ++ (Y2 ++ R)))) := by rw [HK.out.2.1, eV]; simp
            rw [e]; exact HH.out)
          clear eV HUV
          go_wp2
          (try simp only [Exit.inBlock, Exit.then])
          refine bodyPost_ret (results_none rfl _ _ _) rfl ?_
          exact ⟨rfl, HG.out, _, HZ.out.1, HZ.out.2, HF.out⟩
end Go.Proofs.Ythghflgmeepnlaa.Pa
end
section
namespace Go.Proofs.Ythghflgmeepnlaa.Pa
open Go.RowKit Go.Proofs.YthghflgmeepnlaaW.PrintWords Go.Proofs.YthghflgmeepnlaaW.PrintLast Go.Proofs.YthghflgmeepnlaaW.PrintMore
set_option linter.unusedVariables false
set_option linter.unusedSimpArgs false
set_option maxHeartbeats 8000000 in
set_option maxRecDepth 1000000 in
theorem sym_right {fk : Nat} {caps : Array Value} {cf : Nat → Nat → Int} {N g : Nat} (ho : OrdP cf) (P X R : List Nat) (y a m b L cap : Nat) (w : World) (hc : CmpOk fk caps cf N g w) (hh : HoldI w g (P ++ (X ++ (y :: R))))
    (ha : a = P.length) (hm : m = a + X.length) (hb : b = m + 1) (hL : L = a + X.length + 1 + R.length) (hsz : L < 1000000000) (hX1 : X.length ≠ 1) (hX : X.Pairwise (ltP cf)) (hlt : ∀ x ∈ X, x < y) (hN : y < N ∧ ∀ x ∈ X, x < N) :
    Calls Try.prog 115 #[.slice (some ⟨g, 0, none⟩) L cap, .int .i64 a, .int .i64 m, .int .i64 b, .func (.func fk) #[] caps] w fun e w' => e = .returned (.tuple #[]) ∧ w.grownBy w' (some g) ∧ ∃ Z, Z.Perm (y :: X) ∧ Z.Pairwise (ltP cf) ∧ HoldI w' g (P ++ (Z ++ R)) := by
  have HH := Aside0.mk hh
  have HG := Aside0.mk (show w.grownBy w (some g) from ⟨rfl, rfl, rfl, Nat.le_refl _, fun _ _ _ => rfl⟩)
  have HC := Aside0.mk hc.call
  have hcf := hc.enter
  have NM := Aside0.mk (⟨ha, hm, hb, hL, hsz⟩ : a = P.length ∧ m = a + X.length ∧ b = m + 1 ∧ L = a + X.length + 1 + R.length ∧ L < 1000000000)
  have HN := Aside0.mk hN
  have HXA := Aside0.mk hX
  have HLT := Aside0.mk hlt
  have d0 : ((X.length : Int) == 1) = false := beq_eq_false_iff_ne.mpr (by omega)
  have d0' : (X.length == 1) = false := beq_eq_false_iff_ne.mpr hX1
  have d2 : wrap64 ((m : Int) - (a : Int)) = (X.length : Int) := wrap_dif (by omega) (by omega)
  have d2' : IntKind.i64.wrap ((m : Int) - (a : Int)) = (X.length : Int) := wrap_difK (by omega) (by omega)
  have d1 : wrap64 ((b : Int) - (m : Int)) = 1 := by have := NM.out; unfold wrap64; omega
  have d1' : IntKind.i64.wrap ((b : Int) - (m : Int)) = 1 := by have := NM.out; rw [IntKind.wrap_i64]; omega
  clear hc hh ha hm hb hL hsz hN hX hlt
  go_enter Try.func115, Try.ntmps115
  go_wp2
  go_loopg [14, 15] (m - a) (fun kq v10 v11 wr => ∃ (i j : Nat), v10 = .int .i64 (i : Int) ∧ v11 = .int .i64 (j : Int) ∧ Aside0 (a ≤ i ∧ i ≤ j ∧ j ≤ m ∧ j - i ≤ kq) ∧ Aside0 ((i = a ∨ ¬ cf y (X.getD (i - 1 - a) 0) < 0) ∧ (j = m ∨ cf y (X.getD (j - a) 0) < 0)) ∧ Aside0 (HoldI wr g (P ++ (X ++ (y :: R)))) ∧ Aside0 (w.grownBy wr (some g)))
  case atStart => exact ⟨a, m, rfl, rfl, ⟨by have := NM.out; omega⟩, ⟨.inl rfl, .inl rfl⟩, HH, HG⟩
  case round =>
    clear HH HG d1 d1' d2 d2' d0 d0'
    obtain ⟨i, j, rfl, rfl, HI, HBD, HH, HG⟩ := hrel
    by_cases cij : i < j
    · have cij1 : (i : Int) < (j : Int) := by omega
      have cij2 : decide ((i : Int) < (j : Int)) = true := decide_eq_true cij1
      obtain ⟨k1, rfl⟩ : ∃ k1, gk = k1 + 1 := ⟨gk - 1, by have := HI.out; omega⟩
      obtain ⟨s, hs⟩ : ∃ s, s = i + j := ⟨_, rfl⟩
      obtain ⟨h, hh⟩ : ∃ h, h = s / 2 := ⟨_, rfl⟩
      have hsb : s < 4611686018427387904 := by have h1 := HI.out; have h2 := NM.out; omega
      have HR := Aside0.mk (show i ≤ h ∧ h < j by omega)
      have hmh : a ≤ h ∧ h < L := by have h1 := HI.out; have h2 := NM.out; omega
      obtain ⟨q, hq⟩ : ∃ q, h = a + q := ⟨h - a, by omega⟩
      have hql : q < X.length := by have h1 := HI.out; have h2 := NM.out; omega
      obtain ⟨x, hx⟩ : ∃ x, X[q]? = some x := ⟨X[q], List.getElem?_eq_getElem hql⟩
      have hxD : X.getD q 0 = x := by rw [List.getD_eq_getElem?_getD, hx]; rfl
      have gh : (P ++ (X ++ (y :: R)))[h]? = some x := by
        rw [hq, List.getElem?_append_right (by have := NM.out; omega), show a + q - P.length = q by have := NM.out; omega, List.getElem?_append_left hql]
        exact hx
      have gy : (P ++ (X ++ (y :: R)))[m]? = some y := by
        have e : P ++ (X ++ (y :: R)) = (P ++ X) ++ y :: R := by simp
        have l1 : (P ++ X).length = m := by rw [List.length_append]; have := NM.out; omega
        rw [e, ← l1]; exact get_mid _ _ _
      have ch := HH.out.cell gh
      have cy := HH.out.cell gy
      have hxN := HN.out.2 x (List.mem_of_getElem? hx)
      have hyN := HN.out.1
      have HQ := Aside0.mk (⟨hq, hxD⟩ : h = a + q ∧ X.getD q 0 = x)
      have z1 : (h : Int) < (L : Int) := by omega
      have z2 : (0 : Int) ≤ (h : Int) := by omega
      have z3 : (m : Int) < (L : Int) := by have := NM.out; omega
      have z4 : (0 : Int) ≤ (m : Int) := by omega
      have HW := Aside0.mk (show wrap64 ((h : Int) + 1) = ((h + 1 : Nat) : Int) from wrap_one (by have := NM.out; omega))
      have hwr := half_wrap hs hh hsb
      obtain ⟨w1, w2, w3⟩ := hwr
      clear hs hh hsb hmh hq hql hx hxD gh gy
      by_cases ct : cf y x < 0
      · have ct1 : decide (cf y x < 0) = true := decide_eq_true ct
        go_wp2_with fail
        go_region_held3 (fun w' => w'.cell? ⟨g, h, none⟩ = some (enN x) ∧ w'.cell? ⟨g, m, none⟩ = some (enN y))
          (first | go_keep | (refine ⟨?_, ?_⟩ <;> refine pw_cell_below hbl ?_ <;> first | assumption | (simp only [*]; done)))
          (first | (refine (HC.out _ y x (by first | exact HG.out | exact gr_drew HG.out) hyN hxN).mono ?_; rintro e w' ⟨rfl, hbl⟩; have n0_ := Aside0.mk (gr_below (by first | exact HG.out | exact gr_drew HG.out) hbl); have n1_ := Aside0.mk (HoldI.below (by first | exact HH.out | exact HH.out.drew) hbl); clear HG HH; have HG := n0_; have HH := n1_; clear n0_ n1_))
        clear ch cy w1 w2 w3
        go_wp2
        go_roundg k1
        case measure => omega
        case rel => exact ⟨i, h, rfl, rfl, ⟨by have h1 := HI.out; have h2 := HR.out; omega⟩, ⟨HBD.out.1, .inr (by rw [show h - a = q by have := HQ.out.1; omega, HQ.out.2]; exact ct)⟩, HH, HG⟩
      · have ct1 : decide (cf y x < 0) = false := decide_eq_false ct
        go_wp2_with fail
        go_region_held3 (fun w' => w'.cell? ⟨g, h, none⟩ = some (enN x) ∧ w'.cell? ⟨g, m, none⟩ = some (enN y))
          (first | go_keep | (refine ⟨?_, ?_⟩ <;> refine pw_cell_below hbl ?_ <;> first | assumption | (simp only [*]; done)))
          (first | (refine (HC.out _ y x (by first | exact HG.out | exact gr_drew HG.out) hyN hxN).mono ?_; rintro e w' ⟨rfl, hbl⟩; have n0_ := Aside0.mk (gr_below (by first | exact HG.out | exact gr_drew HG.out) hbl); have n1_ := Aside0.mk (HoldI.below (by first | exact HH.out | exact HH.out.drew) hbl); clear HG HH; have HG := n0_; have HH := n1_; clear n0_ n1_))
        clear ch cy w1 w2 w3
        go_wp2
        go_roundg k1
        case measure => omega
        case rel => exact ⟨h + 1, j, by first | rw [HW.out] | rfl | go_num, rfl, ⟨by have h1 := HI.out; have h2 := HR.out; omega⟩, ⟨.inr (by rw [show h + 1 - 1 - a = q by have := HQ.out.1; omega, HQ.out.2]; exact ct), HBD.out.2⟩, HH, HG⟩
    · have cij1 : ¬ (i : Int) < (j : Int) := by omega
      have cij2 : decide ((i : Int) < (j : Int)) = false := decide_eq_false cij1
      have eij : i = j := by have := HI.out; omega
      subst eij
      obtain ⟨t, ht⟩ : ∃ t, i = a + t := ⟨i - a, by have := HI.out; omega⟩
      have HT := Aside0.mk (⟨ht, by have h1 := HI.out; have h2 := NM.out; omega⟩ : i = a + t ∧ t ≤ X.length)
      have HZ := Aside0.mk (show (X.take t ++ y :: X.drop t).Perm (y :: X) ∧ (X.take t ++ y :: X.drop t).Pairwise (ltP cf) by
        have hb := HBD.out
        have hX' := HXA.out
        have hlt' := HLT.out
        have get : ∀ k, k < X.length → X[k]? = some (X.getD k 0) := fun k hk => by rw [List.getD_eq_getElem?_getD, List.getElem?_eq_getElem hk]; rfl
        refine ⟨?_, put_ok (by rw [List.take_append_drop]; exact hX') (fun u hu => ?_) (fun v hv => ?_)⟩
        · have := List.perm_middle (a := y) (l₁ := X.take t) (l₂ := X.drop t)
          rwa [List.take_append_drop] at this
        · refine split_ok ho hX' (by simp : [y].Pairwise (ltP cf)) t 0 HT.out.2 (by simp) ?_ u hu y (by simp)
          rcases hb.1 with q | q
          · left; have := HT.out.1; omega
          · by_cases t0 : t = 0
            · exact .inl t0
            · right; right
              refine ⟨_, y, get (t - 1) (by have := HT.out; omega), rfl, ?_⟩
              rw [show i - 1 - a = t - 1 by have := HT.out; omega] at q
              exact ltP_forth ho (hlt' _ (List.mem_of_getElem? (get (t - 1) (by have := HT.out; omega)))) q
        · refine split_ok ho (by simp : [y].Pairwise (ltP cf)) hX' 1 t (by simp) HT.out.2 ?_ y (by simp) v hv
          rcases hb.2 with q | q
          · right; left; have h1 := HT.out.1; have h2 := NM.out; omega
          · by_cases t0 : t = X.length
            · exact .inr (.inl t0)
            · right; right
              refine ⟨y, _, rfl, get t (by have := HT.out; omega), ?_⟩
              rw [show i - a = t by have := HT.out; omega] at q
              exact .inl q)
      have lT : (X.take t).length = t := by rw [List.length_take]; have := HT.out; omega
      obtain ⟨X1, hX1'⟩ : ∃ X1, X1 = X.take t := ⟨_, rfl⟩
      obtain ⟨X2, hX2'⟩ : ∃ X2, X2 = X.drop t := ⟨_, rfl⟩
      have HX12 := Aside0.mk (show X = X1 ++ X2 by rw [hX1', hX2']; exact (List.take_append_drop t X).symm)
      rw [← hX1', ← hX2'] at HZ
      rw [← hX1'] at lT
      have LT := Aside0.mk lT
      have HH1 := Aside0.mk (show HoldI wr g (P ++ (X1 ++ (X2 ++ (y :: ([] ++ R))))) by
        have e : P ++ (X1 ++ (X2 ++ (y :: ([] ++ R)))) = P ++ (X ++ (y :: R)) := by rw [HX12.out]; simp
        rw [e]; exact HH.out)
      have NL := Aside0.mk (show a + t + X2.length + 1 + R.length = L ∧ L < 1000000000 ∧ m = a + t + X2.length by
        have h1 := congrArg List.length HX12.out
        have h2 := NM.out
        rw [List.length_append, lT] at h1
        omega)
      clear hX1' hX2' lT HH HBD HI ht
      go_wp2_with fail
      go_loopg [17] X2.length (fun kq v17 wr => ∃ (k : Nat) (U V : List Nat), v17 = .int .i64 (k : Int) ∧ Aside0 (k = a + t + U.length ∧ X2 = U ++ V ∧ U.length ≤ kq) ∧ Aside0 (HoldI wr g (P ++ (X1 ++ (U ++ (y :: (V ++ R)))))) ∧ Aside0 (w.grownBy wr (some g)))
      case atStart => exact ⟨m, X2, [], rfl, ⟨NL.out.2.2, by simp, Nat.le_refl _⟩, HH1, HG⟩
      case round =>
        clear HH1 HG
        obtain ⟨k, U, V, rfl, HK, HH, HG⟩ := hrel
        have HUV := Aside0.mk (show U.length + V.length = X2.length by
          have h1 := congrArg List.length HK.out.2.1
          rw [List.length_append] at h1
          exact h1.symm)
        by_cases ck : i < k
        · have ck1 : (i : Int) < (k : Int) := by omega
          have ck2 : decide ((k : Int) > (i : Int)) = true := decide_eq_true ck1
          obtain ⟨U', u, eU⟩ : ∃ U' u, U = U' ++ [u] := by
            refine ⟨U.dropLast, U.getLast (by intro e; have h1 := HK.out.1; have h2 := HT.out.1; simp [e] at h1; omega), ?_⟩
            exact (List.dropLast_concat_getLast _).symm
          subst eU
          obtain ⟨k1, rfl⟩ : ∃ k1, gk = k1 + 1 := ⟨gk - 1, by have := HK.out.2.2; simp at this; omega⟩
          obtain ⟨k0, hk0⟩ : ∃ k0, k = k0 + 1 := ⟨k - 1, by omega⟩
          have e1 : P ++ (X1 ++ ((U' ++ [u]) ++ (y :: (V ++ R)))) = (P ++ (X1 ++ U')) ++ u :: y :: (V ++ R) := by simp
          have l1 : (P ++ (X1 ++ U')).length = k0 := by
            rw [List.length_append, List.length_append, LT.out]
            have h1 := HK.out.1
            have h2 := NM.out.1
            rw [List.length_append] at h1
            simp at h1
            omega
          have l2 : (P ++ (X1 ++ (U' ++ [u]))).length = k := by
            rw [List.length_append, List.length_append, LT.out]
            have h1 := HK.out.1
            have h2 := NM.out.1
            omega
          have l3 : (P ++ (X1 ++ (U' ++ [y]))).length = k := by
            rw [List.length_append, List.length_append] at l2 ⊢
            rw [List.length_append] at l2 ⊢
            exact l2
          have gk0 : (P ++ (X1 ++ ((U' ++ [u]) ++ (y :: (V ++ R)))))[k0]? = some u := by rw [e1, ← l1]; exact get_mid _ _ _
          have gk2 : (P ++ (X1 ++ ((U' ++ [u]) ++ (y :: (V ++ R)))))[k]? = some y := by
            have e2 : P ++ (X1 ++ ((U' ++ [u]) ++ (y :: (V ++ R)))) = (P ++ (X1 ++ (U' ++ [u]))) ++ y :: (V ++ R) := by simp
            rw [e2, ← l2]; exact get_mid _ _ _
          have ca := HH.out.cell gk0
          have cb := HH.out.cell gk2
          have fa := HH.out.free k0
          have fb := HH.out.free k
          have s1 : ((P ++ (X1 ++ ((U' ++ [u]) ++ (y :: (V ++ R))))).set k u).set k0 y = P ++ (X1 ++ (U' ++ (y :: ((u :: V) ++ R)))) := by
            have e2 : P ++ (X1 ++ ((U' ++ [u]) ++ (y :: (V ++ R)))) = (P ++ (X1 ++ (U' ++ [u]))) ++ y :: (V ++ R) := by simp
            have e3 : (P ++ (X1 ++ (U' ++ [u]))) ++ u :: (V ++ R) = (P ++ (X1 ++ U')) ++ u :: u :: (V ++ R) := by simp
            rw [e2, ← l2, set_mid, e3, ← l1, set_mid]
            simp
          have hs := HoldI.set (HoldI.set HH.out k u) k0 y
          rw [s1] at hs
          have HS := Aside0.mk hs
          have HGS := Aside0.mk (gr_set (j := k0) (gr_set (j := k) HG.out (enN u)) (enN y))
          have HKL := Aside0.mk (show k < L by
            have h1 := NL.out
            have h2 := HK.out.1
            have h3 := HUV.out
            omega)
          have z1 : (k : Int) < (L : Int) := by have := HKL.out; omega
          have z2 : (k0 : Int) < (L : Int) := by have := HKL.out; omega
          have z3 : (0 : Int) ≤ (k : Int) := by omega
          have z4 : (0 : Int) ≤ (k0 : Int) := by omega
          have hne : k ≠ k0 := by omega
          have HKN := Aside0.mk (show k0 = a + t + U'.length ∧ X2 = U' ++ (u :: V) ∧ U'.length ≤ k1 by
            have h1 := HK.out
            rw [List.length_append] at h1
            simp at h1
            refine ⟨by omega, by rw [h1.2.1], by omega⟩)
          have HK2 := Aside0.mk hk0
          have wk : wrap64 ((k : Int) - 1) = (k0 : Int) := by have h1 := HKL.out; have h2 := NL.out; unfold wrap64; omega
          have wk' : IntKind.i64.wrap ((k : Int) - 1) = (k0 : Int) := by have h1 := HKL.out; have h2 := NL.out; clear wk; rw [IntKind.wrap_i64]; omega
          clear e1 l1 l2 l3 gk0 gk2 s1 hs hk0
          go_wp2_with fail
          go_region
          all_goals go_wp2
          clear wk wk' z1 z2 z3 z4 hne
          go_roundg k1
          case measure => omega
          case rel => exact ⟨k0, U', u :: V, rfl, HKN, ⟨by first | exact HS.out | exact HS.out.drew⟩, ⟨by first | exact HGS.out | exact gr_drew HGS.out⟩⟩
        · have ck1 : ¬ (i : Int) < (k : Int) := by omega
          have ck2 : decide ((k : Int) > (i : Int)) = false := decide_eq_false ck1
          have eU : U = [] := List.eq_nil_of_length_eq_zero (by have h1 := HUV.out; have h2 := HK.out.1; have h3 := HT.out.1; omega)
          have HF := Aside0.mk (show HoldI wr g (P ++ ((X1 ++ y :: X2) ++ R)) by
            have e : P ++ ((X1 ++ y :: X2) ++ R) = P ++ (X1 ++ (U ++ (y :: (V ++ R)))) := by rw [HK.out.2.1, eU]; simp
            rw [e]; exact HH.out)
          clear eU HUV
          go_wp2
          (try simp only [Exit.inBlock, Exit.then])
          refine bodyPost_ret (results_none rfl _ _ _) rfl ?_
          exact ⟨rfl, HG.out, _, HZ.out.1, HZ.out.2, HF.out⟩
end Go.Proofs.Ythghflgmeepnlaa.Pa
end
section
namespace Go.Proofs.Ythghflgmeepnlaa.Pa
open Go.RowKit Go.Proofs.YthghflgmeepnlaaW.PrintWords Go.Proofs.YthghflgmeepnlaaW.PrintLast Go.Proofs.YthghflgmeepnlaaW.PrintMore
set_option linter.unusedVariables false
set_option linter.unusedSimpArgs false
/-- What symMerge does to block g. -/
def SymGoal (fk : Nat) (caps : Array Value) (cf : Nat → Nat → Int) (N g n : Nat) : Prop :=
  ∀ (P X Y R : List Nat) (a m b L cap : Nat) (w : World), X.length + Y.length ≤ n → CmpOk fk caps cf N g w → HoldI w g (P ++ (X ++ (Y ++ R))) → a = P.length → m = a + X.length → b = m + Y.length → 0 < X.length → 0 < Y.length →
    L = a + X.length + Y.length + R.length → L < 1000000000 → X.Pairwise (ltP cf) → Y.Pairwise (ltP cf) → (∀ x ∈ X, ∀ y ∈ Y, x < y) → (∀ x ∈ X, x < N) → (∀ y ∈ Y, y < N) →
    Calls Try.prog 115 #[.slice (some ⟨g, 0, none⟩) L cap, .int .i64 a, .int .i64 m, .int .i64 b, .func (.func fk) #[] caps] w fun e w' => e = .returned (.tuple #[]) ∧ w.grownBy w' (some g) ∧ ∃ Z, Z.Perm (X ++ Y) ∧ Z.Pairwise (ltP cf) ∧ HoldI w' g (P ++ (Z ++ R))
theorem mid_facts {a m b mid n p st r : Nat} (h1 : a < m) (h2 : m < b) (hm : mid = (a + b) / 2) (hn : n = mid + m) (hp : n = p + 1) (hc : (mid < m ∧ st = n - b ∧ r = mid) ∨ (m ≤ mid ∧ st = a ∧ r = m)) :
    a < mid ∧ mid < b ∧ a ≤ st ∧ st ≤ r ∧ r ≤ m ∧ n ≤ b + st ∧ n ≤ 2 * b ∧ (∀ c, st ≤ c → c < r → a ≤ c ∧ c < m ∧ m + c ≤ p ∧ p < b + c) ∧ (∀ s, st ≤ s → s ≤ r → m + s ≤ n ∧ n ≤ b + s) ∧ (∀ s, s = st → s = a ∨ n = b + s) ∧ (∀ s, s = r → n = m + s ∨ s = m) := by
  rcases hc with ⟨c1, c2, c3⟩ | ⟨c1, c2, c3⟩
  · refine ⟨by omega, by omega, by omega, by omega, by omega, by omega, by omega, fun c x y => by omega, fun s x y => by omega, fun s x => by omega, fun s x => by omega⟩
  · refine ⟨by omega, by omega, by omega, by omega, by omega, by omega, by omega, fun c x y => by omega, fun s x y => by omega, fun s x => by omega, fun s x => by omega⟩
theorem tail_nums {a m b L mid i en u v x2 y2 xl yl r pl n0 : Nat} (NM : a = pl ∧ m = a + xl ∧ b = m + yl ∧ L = a + xl + yl + r ∧ L < 1000000000 ∧ 1 < xl ∧ 1 < yl ∧ xl + yl ≤ n0 + 1) (hx : xl = u + x2) (hy : yl = v + y2) (hi : i = a + u) (hv : en = m + v) (hmv : mid = a + u + v) (ho : a < mid ∧ mid < b) :
    (i < m ↔ 0 < x2) ∧ (m < en ↔ 0 < v) ∧ (a < i ↔ 0 < u) ∧ (i < mid ↔ 0 < v) ∧ (mid < en ↔ 0 < x2) ∧ (en < b ↔ 0 < y2) ∧ (x2 = 0 → 0 < u) ∧ (v = 0 → 0 < u ∧ 0 < y2) ∧ u + v ≤ n0 ∧ x2 + y2 ≤ n0 := by
  refine ⟨by omega, by omega, by omega, by omega, by omega, by omega, by omega, by omega, by omega, by omega⟩
theorem sym_done {cf : Nat → Nat → Int} {X Y X1 X2 Y1 Y2 Z1 Z2 P R : List Nat} {w : World} {g : Nat} (eX : X = X1 ++ X2) (eY : Y = Y1 ++ Y2) (hX : X.Pairwise (ltP cf)) (hY : Y.Pairwise (ltP cf)) (h12 : ∀ x ∈ X1, ∀ y ∈ Y2, ltP cf x y) (h21 : ∀ y ∈ Y1, ∀ x ∈ X2, ltP cf y x)
    (p1 : Z1.Perm (X1 ++ Y1)) (p2 : Z2.Perm (X2 ++ Y2)) (s1 : Z1.Pairwise (ltP cf)) (s2 : Z2.Pairwise (ltP cf)) (hh : HoldI w g (P ++ (Z1 ++ (Z2 ++ R)))) : ∃ Z, Z.Perm (X ++ Y) ∧ Z.Pairwise (ltP cf) ∧ HoldI w g (P ++ (Z ++ R)) := by
  rw [eX] at hX ⊢
  rw [eY] at hY ⊢
  have h := merge_ok hX hY h12 h21 p1 p2 s1 s2
  exact ⟨Z1 ++ Z2, h.2, h.1, by rw [List.append_assoc]; exact hh⟩
set_option maxHeartbeats 16000000 in
set_option maxRecDepth 1000000 in
theorem sym_gen {fk : Nat} {caps : Array Value} {cf : Nat → Nat → Int} {N g n0 : Nat} (ho : OrdP cf) (IH : SymGoal fk caps cf N g n0) (P X Y R : List Nat) (a m b L cap : Nat) (w : World) (hn0 : X.length + Y.length ≤ n0 + 1) (hc : CmpOk fk caps cf N g w) (hh : HoldI w g (P ++ (X ++ (Y ++ R))))
    (ha : a = P.length) (hm : m = a + X.length) (hb : b = m + Y.length) (hx1 : 1 < X.length) (hy1 : 1 < Y.length) (hL : L = a + X.length + Y.length + R.length) (hsz : L < 1000000000) (hX : X.Pairwise (ltP cf)) (hY : Y.Pairwise (ltP cf)) (hlt : ∀ x ∈ X, ∀ y ∈ Y, x < y) (hNX : ∀ x ∈ X, x < N) (hNY : ∀ y ∈ Y, y < N) :
    Calls Try.prog 115 #[.slice (some ⟨g, 0, none⟩) L cap, .int .i64 a, .int .i64 m, .int .i64 b, .func (.func fk) #[] caps] w fun e w' => e = .returned (.tuple #[]) ∧ w.grownBy w' (some g) ∧ ∃ Z, Z.Perm (X ++ Y) ∧ Z.Pairwise (ltP cf) ∧ HoldI w' g (P ++ (Z ++ R)) := by
  have HH := Aside0.mk hh
  have HG := Aside0.mk (show w.grownBy w (some g) from ⟨rfl, rfl, rfl, Nat.le_refl _, fun _ _ _ => rfl⟩)
  have HCO := Aside0.mk hc
  have hcf := hc.enter
  have NM := Aside0.mk (⟨ha, hm, hb, hL, hsz, hx1, hy1, hn0⟩ : a = P.length ∧ m = a + X.length ∧ b = m + Y.length ∧ L = a + X.length + Y.length + R.length ∧ L < 1000000000 ∧ 1 < X.length ∧ 1 < Y.length ∧ X.length + Y.length ≤ n0 + 1)
  have HN := Aside0.mk (⟨hNX, hNY⟩ : (∀ x ∈ X, x < N) ∧ ∀ y ∈ Y, y < N)
  have HXA := Aside0.mk hX
  have HYA := Aside0.mk hY
  have HLT := Aside0.mk hlt
  have HIH := Aside0.mk IH
  obtain ⟨s0, hs0⟩ : ∃ s, s = a + b := ⟨_, rfl⟩
  obtain ⟨mid, hmid⟩ : ∃ s, s = s0 / 2 := ⟨_, rfl⟩
  obtain ⟨n, hn⟩ : ∃ n, n = mid + m := ⟨_, rfl⟩
  obtain ⟨p, hp⟩ : ∃ p, n = p + 1 := ⟨n - 1, by omega⟩
  have NB := Aside0.mk (⟨hs0, hmid, hn, hp⟩ : s0 = a + b ∧ mid = s0 / 2 ∧ n = mid + m ∧ n = p + 1)
  have BND := Aside0.mk (show s0 < 4611686018427387904 ∧ n < 4611686018427387904 ∧ b ≤ L by omega)
  have ORD := Aside0.mk (⟨by omega, by omega⟩ : a < m ∧ m < b)
  have d0 : ((X.length : Int) == 1) = false := beq_eq_false_iff_ne.mpr (by omega)
  have d0' : ((Y.length : Int) == 1) = false := beq_eq_false_iff_ne.mpr (by omega)
  have d00 : (X.length == 1) = false := beq_eq_false_iff_ne.mpr (by omega)
  have d00' : (Y.length == 1) = false := beq_eq_false_iff_ne.mpr (by omega)
  have hwr := half_wrap hs0 hmid BND.out.1
  obtain ⟨w1, w2, w3⟩ := hwr
  have d1 : wrap64 ((m : Int) - (a : Int)) = (X.length : Int) := wrap_dif (by have := NM.out; clear w1 w2 w3; omega) (by have := NM.out; clear w1 w2 w3; omega)
  have d2 : wrap64 ((b : Int) - (m : Int)) = (Y.length : Int) := wrap_dif (by have := NM.out; clear w1 w2 w3 d1; omega) (by have := NM.out; clear w1 w2 w3 d1; omega)
  have d3 : wrap64 ((mid : Int) + (m : Int)) = (n : Int) := wrap_sum hn BND.out.2.1
  have d4 : wrap64 ((n : Int) - 1) = (p : Int) := by have h1 := NB.out.2.2.2; have h2 := BND.out.2.1; clear w1 w2 w3 d1 d2 d3; unfold wrap64; omega
  clear hc hh ha hm hb hL hsz hNX hNY hX hY hlt IH hs0 hmid hn hp hx1 hy1 hn0
  by_cases cm : mid < m
  · obtain ⟨st, hst⟩ : ∃ st, st = n - b := ⟨_, rfl⟩
    have HF := Aside0.mk (mid_facts ORD.out.1 ORD.out.2 (by rw [← NB.out.1]; exact NB.out.2.1) NB.out.2.2.1 NB.out.2.2.2 (.inl ⟨cm, hst, rfl⟩))
    have c1 : (mid : Int) < (m : Int) := Int.ofNat_lt.2 cm
    have c2 : decide ((m : Int) > (mid : Int)) = true := decide_eq_true c1
    have hnb : n = st + b := by have h1 := NB.out; have h2 := ORD.out; clear w1 w2 w3 d1 d2 d3 d4 HF c1 c2; omega
    have d5 : wrap64 ((n : Int) - (b : Int)) = (st : Int) := wrap_dif hnb BND.out.2.1
    clear hst hnb
    go_enter Try.func115, Try.ntmps115
    go_wp2
    (try simp only [w1, w2, w3, d1, d2, d3, d4, d5])
    clear w1 w2 w3 d1 d2 d3 d4 d0 d0' d00 d00' d5
    go_loopg [20, 21] (mid - st) (fun kq v10 v11 wr => ∃ (i j : Nat), v10 = .int .i64 (i : Int) ∧ v11 = .int .i64 (j : Int) ∧ Aside0 (st ≤ i ∧ i ≤ j ∧ j ≤ mid ∧ j - i ≤ kq) ∧ Aside0 ((i = st ∨ ¬ cf (Y.getD (p - (i - 1) - m) 0) (X.getD (i - 1 - a) 0) < 0) ∧ (j = mid ∨ cf (Y.getD (p - j - m) 0) (X.getD (j - a) 0) < 0)) ∧ Aside0 (HoldI wr g (P ++ (X ++ (Y ++ R)))) ∧ Aside0 (w.grownBy wr (some g)))
    case atStart => exact ⟨st, mid, rfl, rfl, ⟨Nat.le_refl _, HF.out.2.2.2.1, Nat.le_refl _, Nat.le_refl _⟩, ⟨.inl rfl, .inl rfl⟩, HH, HG⟩
    case round =>
      clear HH HG c1 c2
      obtain ⟨i, j, rfl, rfl, HI, HBD, HH, HG⟩ := hrel
      by_cases cij : i < j
      · have cij1 : (i : Int) < (j : Int) := by omega
        have cij2 : decide ((i : Int) < (j : Int)) = true := decide_eq_true cij1
        obtain ⟨k1, rfl⟩ : ∃ k1, gk = k1 + 1 := ⟨gk - 1, by have := HI.out; omega⟩
        obtain ⟨s, hs⟩ : ∃ s, s = i + j := ⟨_, rfl⟩
        obtain ⟨h, hh⟩ : ∃ h, h = s / 2 := ⟨_, rfl⟩
        have HR := Aside0.mk (show i ≤ h ∧ h < j by omega)
        have hcr := HF.out.2.2.2.2.2.2.2.1 h (by have := HI.out; have := HR.out; omega) (by have := HI.out; have := HR.out; omega)
        have hsb : s < 4611686018427387904 := by have h1 := HI.out; have h2 := HF.out.2.2.2.2.1; have h3 := NM.out; have h4 := BND.out.2.2; have h5 := ORD.out; omega
        obtain ⟨q, hq⟩ : ∃ q, h = a + q := ⟨h - a, by omega⟩
        obtain ⟨e, he⟩ : ∃ e, p = e + h := ⟨p - h, by have := ORD.out; omega⟩
        obtain ⟨f, hf⟩ : ∃ f, e = m + f := ⟨e - m, by omega⟩
        have hql : q < X.length := by have h2 := NM.out; omega
        have hfl : f < Y.length := by have h2 := NM.out; omega
        obtain ⟨x, hx⟩ : ∃ x, X[q]? = some x := ⟨X[q], List.getElem?_eq_getElem hql⟩
        obtain ⟨y, hy⟩ : ∃ y, Y[f]? = some y := ⟨Y[f], List.getElem?_eq_getElem hfl⟩
        have hxD : X.getD q 0 = x := by rw [List.getD_eq_getElem?_getD, hx]; rfl
        have hyD : Y.getD f 0 = y := by rw [List.getD_eq_getElem?_getD, hy]; rfl
        have gh : (P ++ (X ++ (Y ++ R)))[h]? = some x := by
          rw [hq, List.getElem?_append_right (by have := NM.out; omega), show a + q - P.length = q by have := NM.out; omega, List.getElem?_append_left hql]
          exact hx
        have gy : (P ++ (X ++ (Y ++ R)))[e]? = some y := by
          rw [hf, List.getElem?_append_right (by have := NM.out; omega), List.getElem?_append_right (by have := NM.out; omega), show m + f - P.length - X.length = f by have := NM.out; omega, List.getElem?_append_left hfl]
          exact hy
        have ch := HH.out.cell gh
        have cy := HH.out.cell gy
        have hxN := HN.out.1 x (List.mem_of_getElem? hx)
        have hyN := HN.out.2 y (List.mem_of_getElem? hy)
        have HQ := Aside0.mk (⟨hq, hxD, he, hf, hyD⟩ : h = a + q ∧ X.getD q 0 = x ∧ p = e + h ∧ e = m + f ∧ Y.getD f 0 = y)
        have hLb := BND.out.2.2
        have z1 : (h : Int) < (L : Int) := by have := ORD.out; omega
        have z2 : (0 : Int) ≤ (h : Int) := by omega
        have z3 : (e : Int) < (L : Int) := by omega
        have z4 : (0 : Int) ≤ (e : Int) := by omega
        have HW := Aside0.mk (show wrap64 ((h : Int) + 1) = ((h + 1 : Nat) : Int) from wrap_one (by omega))
        have wp : wrap64 ((p : Int) - (h : Int)) = (e : Int) := wrap_dif he (by have h1 := BND.out.2.1; have h2 := NB.out.2.2.2; omega)
        have wp' : IntKind.i64.wrap ((p : Int) - (h : Int)) = (e : Int) := wrap_difK he (by have h1 := BND.out.2.1; have h2 := NB.out.2.2.2; clear wp; omega)
        have hwr := half_wrap hs hh hsb
        obtain ⟨w1, w2, w3⟩ := hwr
        clear hs hh hsb hq hql hx hxD gh gy hcr he hf hfl hy hyD hLb
        by_cases ct : cf y x < 0
        · have ct1 : decide (cf y x < 0) = true := decide_eq_true ct
          go_wp2_with fail
          go_region_held3 (fun w' => w'.cell? ⟨g, h, none⟩ = some (enN x) ∧ w'.cell? ⟨g, e, none⟩ = some (enN y))
            (first | go_keep | (refine ⟨?_, ?_⟩ <;> refine pw_cell_below hbl ?_ <;> first | assumption | (simp only [*]; done)))
            (first | (refine (HCO.out.call _ y x (by first | exact HG.out | exact gr_drew HG.out) hyN hxN).mono ?_; rintro e_ w' ⟨rfl, hbl⟩; have n0_ := Aside0.mk (gr_below (by first | exact HG.out | exact gr_drew HG.out) hbl); have n1_ := Aside0.mk (HoldI.below (by first | exact HH.out | exact HH.out.drew) hbl); clear HG HH; have HG := n0_; have HH := n1_; clear n0_ n1_))
          clear ch cy w1 w2 w3 wp wp'
          go_wp2
          go_roundg k1
          case measure => omega
          case rel => exact ⟨i, h, rfl, rfl, ⟨by have h1 := HI.out; have h2 := HR.out; omega⟩, ⟨HBD.out.1, .inr (by rw [show h - a = q by have := HQ.out.1; omega, show p - h - m = f by have := HQ.out; omega, HQ.out.2.1, HQ.out.2.2.2.2]; exact ct)⟩, HH, HG⟩
        · have ct1 : decide (cf y x < 0) = false := decide_eq_false ct
          go_wp2_with fail
          go_region_held3 (fun w' => w'.cell? ⟨g, h, none⟩ = some (enN x) ∧ w'.cell? ⟨g, e, none⟩ = some (enN y))
            (first | go_keep | (refine ⟨?_, ?_⟩ <;> refine pw_cell_below hbl ?_ <;> first | assumption | (simp only [*]; done)))
            (first | (refine (HCO.out.call _ y x (by first | exact HG.out | exact gr_drew HG.out) hyN hxN).mono ?_; rintro e_ w' ⟨rfl, hbl⟩; have n0_ := Aside0.mk (gr_below (by first | exact HG.out | exact gr_drew HG.out) hbl); have n1_ := Aside0.mk (HoldI.below (by first | exact HH.out | exact HH.out.drew) hbl); clear HG HH; have HG := n0_; have HH := n1_; clear n0_ n1_))
          clear ch cy w1 w2 w3 wp wp'
          go_wp2
          go_roundg k1
          case measure => omega
          case rel => exact ⟨h + 1, j, by first | rw [HW.out] | rfl | go_num, rfl, ⟨by have h1 := HI.out; have h2 := HR.out; omega⟩, ⟨.inr (by rw [show h + 1 - 1 = h by omega, show h - a = q by have := HQ.out.1; omega, show p - h - m = f by have := HQ.out; omega, HQ.out.2.1, HQ.out.2.2.2.2]; exact ct), HBD.out.2⟩, HH, HG⟩
      · have cij1 : ¬ (i : Int) < (j : Int) := by omega
        have cij2 : decide ((i : Int) < (j : Int)) = false := decide_eq_false cij1
        have eij : i = j := by have := HI.out; omega
        subst eij
        obtain ⟨u, hu⟩ : ∃ u, i = a + u := ⟨i - a, by have h1 := HI.out; have h2 := HF.out.2.2.1; omega⟩
        have hes := HF.out.2.2.2.2.2.2.2.2.1 i HI.out.1 HI.out.2.2.1
        obtain ⟨en, hen⟩ : ∃ e, n = e + i := ⟨n - i, by omega⟩
        obtain ⟨v, hv⟩ : ∃ v, en = m + v := ⟨en - m, by omega⟩
        have hub : u ≤ X.length := by have h1 := HI.out; have h2 := HF.out.2.2.2.2.1; have h3 := NM.out; omega
        have hvb : v ≤ Y.length := by have h3 := NM.out; omega
        have hmv : mid = a + u + v := by have h1 := NB.out; omega
        have getX : ∀ k, k < X.length → X[k]? = some (X.getD k 0) := fun k hk => by rw [List.getD_eq_getElem?_getD, List.getElem?_eq_getElem hk]; rfl
        have getY : ∀ k, k < Y.length → Y[k]? = some (Y.getD k 0) := fun k hk => by rw [List.getD_eq_getElem?_getD, List.getElem?_eq_getElem hk]; rfl
        have T12 : ∀ x ∈ X.take u, ∀ y ∈ Y.drop v, ltP cf x y := split_ok ho HXA.out HYA.out u v hub hvb (by
          rcases HBD.out.1 with q | q
          · rcases HF.out.2.2.2.2.2.2.2.2.2.1 i q with r1 | r1
            · left; omega
            · right; left; have h3 := NM.out; omega
          · by_cases u0 : u = 0
            · exact .inl u0
            · by_cases v0 : v = Y.length
              · exact .inr (.inl v0)
              · right; right
                refine ⟨_, _, getX (u - 1) (by omega), getY v (by omega), ltP_forth ho (HLT.out _ (List.mem_of_getElem? (getX (u - 1) (by omega))) _ (List.mem_of_getElem? (getY v (by omega)))) ?_⟩
                rwa [show p - (i - 1) - m = v by have h1 := NB.out; omega, show i - 1 - a = u - 1 by omega] at q)
        have T21 : ∀ y ∈ Y.take v, ∀ x ∈ X.drop u, ltP cf y x := split_ok ho HYA.out HXA.out v u hvb hub (by
          rcases HBD.out.2 with q | q
          · rcases HF.out.2.2.2.2.2.2.2.2.2.2 i q with r1 | r1
            · left; omega
            · right; left; have h3 := NM.out; omega
          · by_cases v0 : v = 0
            · exact .inl v0
            · by_cases u0 : u = X.length
              · exact .inr (.inl u0)
              · right; right
                refine ⟨_, _, getY (v - 1) (by omega), getX u (by omega), .inl ?_⟩
                rwa [show p - i - m = v - 1 by have h1 := NB.out; omega, show i - a = u by omega] at q)
        have sX := pw_take_drop HXA.out u
        have sY := pw_take_drop HYA.out v
        obtain ⟨X1, hX1⟩ : ∃ l, l = X.take u := ⟨_, rfl⟩
        obtain ⟨X2, hX2⟩ : ∃ l, l = X.drop u := ⟨_, rfl⟩
        obtain ⟨Y1, hY1⟩ : ∃ l, l = Y.take v := ⟨_, rfl⟩
        obtain ⟨Y2, hY2⟩ : ∃ l, l = Y.drop v := ⟨_, rfl⟩
        have eX : X = X1 ++ X2 := by rw [hX1, hX2]; exact (List.take_append_drop u X).symm
        have eY : Y = Y1 ++ Y2 := by rw [hY1, hY2]; exact (List.take_append_drop v Y).symm
        have lX1 : X1.length = u := by rw [hX1, List.length_take]; omega
        have lY1 : Y1.length = v := by rw [hY1, List.length_take]; omega
        rw [← hX1, ← hY2] at T12
        rw [← hY1, ← hX2] at T21
        rw [← hX1, ← hX2] at sX
        rw [← hY1, ← hY2] at sY
        clear hX1 hX2 hY1 hY2 hub hvb getX getY
        have lX : X.length = X1.length + X2.length := by rw [eX, List.length_append]
        have lY : Y.length = Y1.length + Y2.length := by rw [eY, List.length_append]
        have HXY := Aside0.mk (⟨eX, eY⟩ : X = X1 ++ X2 ∧ Y = Y1 ++ Y2)
        have HT := Aside0.mk (⟨T12, T21⟩ : (∀ x ∈ X1, ∀ y ∈ Y2, ltP cf x y) ∧ ∀ y ∈ Y1, ∀ x ∈ X2, ltP cf y x)
        have HSS := Aside0.mk (⟨sX.1, sX.2.1, sY.1, sY.2.1⟩ : X1.Pairwise (ltP cf) ∧ X2.Pairwise (ltP cf) ∧ Y1.Pairwise (ltP cf) ∧ Y2.Pairwise (ltP cf))
        subst lX1
        subst lY1
        have TN := Aside0.mk (tail_nums NM.out lX lY hu hv hmv ⟨HF.out.1, HF.out.2.1⟩)
        have we : wrap64 ((n : Int) - (i : Int)) = (en : Int) := wrap_dif hen BND.out.2.1
        have HLL := Aside0.mk (⟨hu, hv, hmv, lX, lY⟩ : i = a + X1.length ∧ en = m + Y1.length ∧ mid = a + X1.length + Y1.length ∧ X.length = X1.length + X2.length ∧ Y.length = Y1.length + Y2.length)
        have HH0 := Aside0.mk (show HoldI wr g ((P ++ X1) ++ (X2 ++ (Y1 ++ (Y2 ++ R)))) by
          have e : (P ++ X1) ++ (X2 ++ (Y1 ++ (Y2 ++ R))) = P ++ (X ++ (Y ++ R)) := by rw [HXY.out.1, HXY.out.2]; simp
          rw [e]; exact HH.out)
        have HMX := Aside0.mk (⟨fun x hx => List.mem_append_left _ hx, fun x hx => List.mem_append_right _ hx, fun x hx => List.mem_append_left _ hx, fun x hx => List.mem_append_right _ hx⟩ : (∀ x ∈ X1, x ∈ X1 ++ X2) ∧ (∀ x ∈ X2, x ∈ X1 ++ X2) ∧ (∀ x ∈ Y1, x ∈ Y1 ++ Y2) ∧ (∀ x ∈ Y2, x ∈ Y1 ++ Y2))
        rw [← eX, ← eY] at HMX
        clear hu hv hmv hes hen T12 T21 sX sY eX eY lX lY HH HBD HI
        rcases Nat.eq_zero_or_pos X2.length with z_x2 | p_x2
        · rcases Nat.eq_zero_or_pos Y1.length with z_y1 | p_y1
          · have p_x1 : 0 < X1.length := TN.out.2.2.2.2.2.2.1 z_x2
            have p_y2 : 0 < Y2.length := (TN.out.2.2.2.2.2.2.2.1 z_y1).2
            have q0 : ¬ (i : Int) < (m : Int) := fun q => by have := TN.out.1.1 (Int.ofNat_lt.1 q); omega
            have r0 : decide ((i : Int) < (m : Int)) = false := decide_eq_false q0
            have q1 : ¬ (m : Int) < (en : Int) := fun q => by have := TN.out.2.1.1 (Int.ofNat_lt.1 q); omega
            have r1 : decide ((m : Int) < (en : Int)) = false := decide_eq_false q1
            have q2 : (a : Int) < (i : Int) := Int.ofNat_lt.2 (TN.out.2.2.1.2 p_x1)
            have r2 : decide ((a : Int) < (i : Int)) = true := decide_eq_true q2
            have q3 : ¬ (i : Int) < (mid : Int) := fun q => by have := TN.out.2.2.2.1.1 (Int.ofNat_lt.1 q); omega
            have r3 : decide ((i : Int) < (mid : Int)) = false := decide_eq_false q3
            have q4 : ¬ (mid : Int) < (en : Int) := fun q => by have := TN.out.2.2.2.2.1.1 (Int.ofNat_lt.1 q); omega
            have r4 : decide ((mid : Int) < (en : Int)) = false := decide_eq_false q4
            have q5 : (en : Int) < (b : Int) := Int.ofNat_lt.2 (TN.out.2.2.2.2.2.1.2 p_y2)
            have r5 : decide ((en : Int) < (b : Int)) = true := decide_eq_true q5
            have HH1 := Aside0.mk (show HoldI wr g (P ++ (X1 ++ (Y1 ++ (X2 ++ (Y2 ++ R))))) by
              have e : P ++ (X1 ++ (Y1 ++ (X2 ++ (Y2 ++ R)))) = (P ++ X1) ++ (X2 ++ (Y1 ++ (Y2 ++ R))) := by rw [List.eq_nil_of_length_eq_zero z_x2]; simp
              rw [e]; exact HH0.out)
            clear HH0
            obtain ⟨Z1, hZ1⟩ : ∃ l, l = X1 ++ Y1 := ⟨_, rfl⟩
            have HP1 := Aside0.mk (show Z1.Perm (X1 ++ Y1) ∧ Z1.Pairwise (ltP cf) by rw [hZ1]; exact ⟨List.Perm.refl _, (by rw [List.eq_nil_of_length_eq_zero z_y1, List.append_nil]; exact HSS.out.1)⟩)
            have HH2 := Aside0.mk (show HoldI wr g (P ++ (Z1 ++ (X2 ++ (Y2 ++ R)))) by have h := HH1.out; rw [hZ1, List.append_assoc]; exact h)
            clear HH1 hZ1
            obtain ⟨Z2, hZ2⟩ : ∃ l, l = X2 ++ Y2 := ⟨_, rfl⟩
            have HP2 := Aside0.mk (show Z2.Perm (X2 ++ Y2) ∧ Z2.Pairwise (ltP cf) by rw [hZ2]; exact ⟨List.Perm.refl _, (by rw [List.eq_nil_of_length_eq_zero z_x2, List.nil_append]; exact HSS.out.2.2.2)⟩)
            have HH3 := Aside0.mk (show HoldI wr g (P ++ (Z1 ++ (Z2 ++ R))) by have h := HH2.out; rw [hZ2, List.append_assoc]; exact h)
            clear HH2 hZ2
            have HEND := Aside0.mk (sym_done HXY.out.1 HXY.out.2 HXA.out HYA.out HT.out.1 HT.out.2 HP1.out.1 HP2.out.1 HP1.out.2 HP2.out.2 HH3.out)
            go_wp2
            all_goals go_end0
            all_goals exact ⟨rfl, HG.out, HEND.out⟩
          · have p_x1 : 0 < X1.length := TN.out.2.2.2.2.2.2.1 z_x2
            have q0 : ¬ (i : Int) < (m : Int) := fun q => by have := TN.out.1.1 (Int.ofNat_lt.1 q); omega
            have r0 : decide ((i : Int) < (m : Int)) = false := decide_eq_false q0
            have q1 : (m : Int) < (en : Int) := Int.ofNat_lt.2 (TN.out.2.1.2 p_y1)
            have r1 : decide ((m : Int) < (en : Int)) = true := decide_eq_true q1
            have q2 : (a : Int) < (i : Int) := Int.ofNat_lt.2 (TN.out.2.2.1.2 p_x1)
            have r2 : decide ((a : Int) < (i : Int)) = true := decide_eq_true q2
            have q3 : (i : Int) < (mid : Int) := Int.ofNat_lt.2 (TN.out.2.2.2.1.2 p_y1)
            have r3 : decide ((i : Int) < (mid : Int)) = true := decide_eq_true q3
            have q4 : ¬ (mid : Int) < (en : Int) := fun q => by have := TN.out.2.2.2.2.1.1 (Int.ofNat_lt.1 q); omega
            have r4 : decide ((mid : Int) < (en : Int)) = false := decide_eq_false q4
            have HH1 := Aside0.mk (show HoldI wr g (P ++ (X1 ++ (Y1 ++ (X2 ++ (Y2 ++ R))))) by
              have e : P ++ (X1 ++ (Y1 ++ (X2 ++ (Y2 ++ R)))) = (P ++ X1) ++ (X2 ++ (Y1 ++ (Y2 ++ R))) := by rw [List.eq_nil_of_length_eq_zero z_x2]; simp
              rw [e]; exact HH0.out)
            clear HH0
            have HS1 := Aside0.mk (HIH.out P X1 Y1 (X2 ++ (Y2 ++ R)) a i mid L cap wr TN.out.2.2.2.2.2.2.2.2.1 (HCO.out.later HG.out) HH1.out NM.out.1 (by have h1 := NM.out; have h2 := HLL.out; have h3 := TN.out; (try simp only [List.length_append]); omega) (by have h1 := NM.out; have h2 := HLL.out; have h3 := TN.out; (try simp only [List.length_append]); omega) p_x1 p_y1 (by have h1 := NM.out; have h2 := HLL.out; have h3 := TN.out; (try simp only [List.length_append]); omega) NM.out.2.2.2.2.1 HSS.out.1 HSS.out.2.2.1 (fun x hx y hy => HLT.out x (HMX.out.1 x hx) y (HMX.out.2.2.1 y hy)) (fun x hx => HN.out.1 x (HMX.out.1 x hx)) (fun y hy => HN.out.2 y (HMX.out.2.2.1 y hy)))
            clear HH1
            go_wp2_with fail
            all_goals refine HS1.out.mono ?_
            all_goals rintro e w2 ⟨rfl, hg, Z1, p1, s1, hh⟩
            all_goals have HG2 := Aside0.mk (gr_trans HG.out hg)
            all_goals have HP1 := Aside0.mk (⟨p1, s1⟩ : Z1.Perm (X1 ++ Y1) ∧ Z1.Pairwise (ltP cf))
            all_goals have HH2 := Aside0.mk hh
            all_goals clear hg hh HS1 p1 s1 HG
            all_goals obtain ⟨Z2, hZ2⟩ : ∃ l, l = X2 ++ Y2 := ⟨_, rfl⟩
            all_goals have HP2 := Aside0.mk (show Z2.Perm (X2 ++ Y2) ∧ Z2.Pairwise (ltP cf) by rw [hZ2]; exact ⟨List.Perm.refl _, (by rw [List.eq_nil_of_length_eq_zero z_x2, List.nil_append]; exact HSS.out.2.2.2)⟩)
            all_goals have HH3 := Aside0.mk (show HoldI w2 g (P ++ (Z1 ++ (Z2 ++ R))) by have h := HH2.out; rw [hZ2, List.append_assoc]; exact h)
            all_goals clear HH2 hZ2
            all_goals have HEND := Aside0.mk (sym_done HXY.out.1 HXY.out.2 HXA.out HYA.out HT.out.1 HT.out.2 HP1.out.1 HP2.out.1 HP1.out.2 HP2.out.2 HH3.out)
            all_goals go_wp2
            all_goals go_end0
            all_goals exact ⟨rfl, HG2.out, HEND.out⟩
        · rcases Nat.eq_zero_or_pos Y1.length with z_y1 | p_y1
          · have p_x1 : 0 < X1.length := (TN.out.2.2.2.2.2.2.2.1 z_y1).1
            have p_y2 : 0 < Y2.length := (TN.out.2.2.2.2.2.2.2.1 z_y1).2
            have q0 : (i : Int) < (m : Int) := Int.ofNat_lt.2 (TN.out.1.2 p_x2)
            have r0 : decide ((i : Int) < (m : Int)) = true := decide_eq_true q0
            have q1 : ¬ (m : Int) < (en : Int) := fun q => by have := TN.out.2.1.1 (Int.ofNat_lt.1 q); omega
            have r1 : decide ((m : Int) < (en : Int)) = false := decide_eq_false q1
            have q2 : (a : Int) < (i : Int) := Int.ofNat_lt.2 (TN.out.2.2.1.2 p_x1)
            have r2 : decide ((a : Int) < (i : Int)) = true := decide_eq_true q2
            have q3 : ¬ (i : Int) < (mid : Int) := fun q => by have := TN.out.2.2.2.1.1 (Int.ofNat_lt.1 q); omega
            have r3 : decide ((i : Int) < (mid : Int)) = false := decide_eq_false q3
            have q4 : (mid : Int) < (en : Int) := Int.ofNat_lt.2 (TN.out.2.2.2.2.1.2 p_x2)
            have r4 : decide ((mid : Int) < (en : Int)) = true := decide_eq_true q4
            have q5 : (en : Int) < (b : Int) := Int.ofNat_lt.2 (TN.out.2.2.2.2.2.1.2 p_y2)
            have r5 : decide ((en : Int) < (b : Int)) = true := decide_eq_true q5
            have HH1 := Aside0.mk (show HoldI wr g (P ++ (X1 ++ (Y1 ++ (X2 ++ (Y2 ++ R))))) by
              have e : P ++ (X1 ++ (Y1 ++ (X2 ++ (Y2 ++ R)))) = (P ++ X1) ++ (X2 ++ (Y1 ++ (Y2 ++ R))) := by rw [List.eq_nil_of_length_eq_zero z_y1]; simp
              rw [e]; exact HH0.out)
            clear HH0
            obtain ⟨Z1, hZ1⟩ : ∃ l, l = X1 ++ Y1 := ⟨_, rfl⟩
            have HP1 := Aside0.mk (show Z1.Perm (X1 ++ Y1) ∧ Z1.Pairwise (ltP cf) by rw [hZ1]; exact ⟨List.Perm.refl _, (by rw [List.eq_nil_of_length_eq_zero z_y1, List.append_nil]; exact HSS.out.1)⟩)
            have HH2 := Aside0.mk (show HoldI wr g (P ++ (Z1 ++ (X2 ++ (Y2 ++ R)))) by have h := HH1.out; rw [hZ1, List.append_assoc]; exact h)
            clear HH1 hZ1
            have HS2 := Aside0.mk (HIH.out (P ++ Z1) X2 Y2 R mid en b L cap wr TN.out.2.2.2.2.2.2.2.2.2 (HCO.out.later HG.out) (by have h := HH2.out; rw [List.append_assoc]; exact h) (by have h1 := NM.out; have h2 := HLL.out; have h3 := HP1.out.1.length_eq; simp only [List.length_append] at h3 ⊢; omega) (by have h1 := NM.out; have h2 := HLL.out; have h3 := TN.out; (try simp only [List.length_append]); omega) (by have h1 := NM.out; have h2 := HLL.out; have h3 := TN.out; (try simp only [List.length_append]); omega) p_x2 p_y2 (by have h1 := NM.out; have h2 := HLL.out; have h3 := TN.out; (try simp only [List.length_append]); omega) NM.out.2.2.2.2.1 HSS.out.2.1 HSS.out.2.2.2 (fun x hx y hy => HLT.out x (HMX.out.2.1 x hx) y (HMX.out.2.2.2 y hy)) (fun x hx => HN.out.1 x (HMX.out.2.1 x hx)) (fun y hy => HN.out.2 y (HMX.out.2.2.2 y hy)))
            clear HH2
            go_wp2_with fail
            all_goals refine HS2.out.mono ?_
            all_goals rintro e w3 ⟨rfl, hg, Z2, p2, s2, hh⟩
            all_goals have HG3 := Aside0.mk (gr_trans HG.out hg)
            all_goals have HP2 := Aside0.mk (⟨p2, s2⟩ : Z2.Perm (X2 ++ Y2) ∧ Z2.Pairwise (ltP cf))
            all_goals have HH3 := Aside0.mk (show HoldI w3 g (P ++ (Z1 ++ (Z2 ++ R))) by rwa [List.append_assoc] at hh)
            all_goals clear hg hh HS2 p2 s2 HG
            all_goals have HEND := Aside0.mk (sym_done HXY.out.1 HXY.out.2 HXA.out HYA.out HT.out.1 HT.out.2 HP1.out.1 HP2.out.1 HP1.out.2 HP2.out.2 HH3.out)
            all_goals go_wp2
            all_goals go_end0
            all_goals exact ⟨rfl, HG3.out, HEND.out⟩
          · rcases Nat.eq_zero_or_pos X1.length with z_x1 | p_x1
            · rcases Nat.eq_zero_or_pos Y2.length with z_y2 | p_y2
              · have q0 : (i : Int) < (m : Int) := Int.ofNat_lt.2 (TN.out.1.2 p_x2)
                have r0 : decide ((i : Int) < (m : Int)) = true := decide_eq_true q0
                have q1 : (m : Int) < (en : Int) := Int.ofNat_lt.2 (TN.out.2.1.2 p_y1)
                have r1 : decide ((m : Int) < (en : Int)) = true := decide_eq_true q1
                have q2 : ¬ (a : Int) < (i : Int) := fun q => by have := TN.out.2.2.1.1 (Int.ofNat_lt.1 q); omega
                have r2 : decide ((a : Int) < (i : Int)) = false := decide_eq_false q2
                have q3 : (i : Int) < (mid : Int) := Int.ofNat_lt.2 (TN.out.2.2.2.1.2 p_y1)
                have r3 : decide ((i : Int) < (mid : Int)) = true := decide_eq_true q3
                have q4 : (mid : Int) < (en : Int) := Int.ofNat_lt.2 (TN.out.2.2.2.2.1.2 p_x2)
                have r4 : decide ((mid : Int) < (en : Int)) = true := decide_eq_true q4
                have q5 : ¬ (en : Int) < (b : Int) := fun q => by have := TN.out.2.2.2.2.2.1.1 (Int.ofNat_lt.1 q); omega
                have r5 : decide ((en : Int) < (b : Int)) = false := decide_eq_false q5
                have HR := Aside0.mk (rot_calls g cap i m en L (P ++ X1) X2 Y1 (Y2 ++ R) (.func (.func fk) #[] caps) wr HH0.out (by have h1 := NM.out; have h2 := HLL.out; have h3 := TN.out; (try simp only [List.length_append]); omega) (by have h1 := NM.out; have h2 := HLL.out; have h3 := TN.out; (try simp only [List.length_append]); omega) (by have h1 := NM.out; have h2 := HLL.out; have h3 := TN.out; (try simp only [List.length_append]); omega) p_x2 p_y1 (by have h1 := NM.out; have h2 := HLL.out; have h3 := TN.out; (try simp only [List.length_append]); omega) NM.out.2.2.2.2.1)
                clear HH0
                go_wp2_with fail
                all_goals (try simp only [we])
                all_goals refine HR.out.mono ?_
                all_goals rintro e w1 ⟨rfl, hg, hh⟩
                all_goals have HG1 := Aside0.mk (gr_trans HG.out hg)
                all_goals have HH1 := Aside0.mk (show HoldI w1 g (P ++ (X1 ++ (Y1 ++ (X2 ++ (Y2 ++ R))))) by rwa [List.append_assoc] at hh)
                all_goals clear hg hh HR HG
                all_goals obtain ⟨Z1, hZ1⟩ : ∃ l, l = X1 ++ Y1 := ⟨_, rfl⟩
                all_goals have HP1 := Aside0.mk (show Z1.Perm (X1 ++ Y1) ∧ Z1.Pairwise (ltP cf) by rw [hZ1]; exact ⟨List.Perm.refl _, (by rw [List.eq_nil_of_length_eq_zero z_x1, List.nil_append]; exact HSS.out.2.2.1)⟩)
                all_goals have HH2 := Aside0.mk (show HoldI w1 g (P ++ (Z1 ++ (X2 ++ (Y2 ++ R)))) by have h := HH1.out; rw [hZ1, List.append_assoc]; exact h)
                all_goals clear HH1 hZ1
                all_goals obtain ⟨Z2, hZ2⟩ : ∃ l, l = X2 ++ Y2 := ⟨_, rfl⟩
                all_goals have HP2 := Aside0.mk (show Z2.Perm (X2 ++ Y2) ∧ Z2.Pairwise (ltP cf) by rw [hZ2]; exact ⟨List.Perm.refl _, (by rw [List.eq_nil_of_length_eq_zero z_y2, List.append_nil]; exact HSS.out.2.1)⟩)
                all_goals have HH3 := Aside0.mk (show HoldI w1 g (P ++ (Z1 ++ (Z2 ++ R))) by have h := HH2.out; rw [hZ2, List.append_assoc]; exact h)
                all_goals clear HH2 hZ2
                all_goals have HEND := Aside0.mk (sym_done HXY.out.1 HXY.out.2 HXA.out HYA.out HT.out.1 HT.out.2 HP1.out.1 HP2.out.1 HP1.out.2 HP2.out.2 HH3.out)
                all_goals go_wp2
                all_goals go_end0
                all_goals exact ⟨rfl, HG1.out, HEND.out⟩
              · have q0 : (i : Int) < (m : Int) := Int.ofNat_lt.2 (TN.out.1.2 p_x2)
                have r0 : decide ((i : Int) < (m : Int)) = true := decide_eq_true q0
                have q1 : (m : Int) < (en : Int) := Int.ofNat_lt.2 (TN.out.2.1.2 p_y1)
                have r1 : decide ((m : Int) < (en : Int)) = true := decide_eq_true q1
                have q2 : ¬ (a : Int) < (i : Int) := fun q => by have := TN.out.2.2.1.1 (Int.ofNat_lt.1 q); omega
                have r2 : decide ((a : Int) < (i : Int)) = false := decide_eq_false q2
                have q3 : (i : Int) < (mid : Int) := Int.ofNat_lt.2 (TN.out.2.2.2.1.2 p_y1)
                have r3 : decide ((i : Int) < (mid : Int)) = true := decide_eq_true q3
                have q4 : (mid : Int) < (en : Int) := Int.ofNat_lt.2 (TN.out.2.2.2.2.1.2 p_x2)
                have r4 : decide ((mid : Int) < (en : Int)) = true := decide_eq_true q4
                have q5 : (en : Int) < (b : Int) := Int.ofNat_lt.2 (TN.out.2.2.2.2.2.1.2 p_y2)
                have r5 : decide ((en : Int) < (b : Int)) = true := decide_eq_true q5
                have HR := Aside0.mk (rot_calls g cap i m en L (P ++ X1) X2 Y1 (Y2 ++ R) (.func (.func fk) #[] caps) wr HH0.out (by have h1 := NM.out; have h2 := HLL.out; have h3 := TN.out; (try simp only [List.length_append]); omega) (by have h1 := NM.out; have h2 := HLL.out; have h3 := TN.out; (try simp only [List.length_append]); omega) (by have h1 := NM.out; have h2 := HLL.out; have h3 := TN.out; (try simp only [List.length_append]); omega) p_x2 p_y1 (by have h1 := NM.out; have h2 := HLL.out; have h3 := TN.out; (try simp only [List.length_append]); omega) NM.out.2.2.2.2.1)
                clear HH0
                go_wp2_with fail
                all_goals (try simp only [we])
                all_goals refine HR.out.mono ?_
                all_goals rintro e w1 ⟨rfl, hg, hh⟩
                all_goals have HG1 := Aside0.mk (gr_trans HG.out hg)
                all_goals have HH1 := Aside0.mk (show HoldI w1 g (P ++ (X1 ++ (Y1 ++ (X2 ++ (Y2 ++ R))))) by rwa [List.append_assoc] at hh)
                all_goals clear hg hh HR HG
                all_goals obtain ⟨Z1, hZ1⟩ : ∃ l, l = X1 ++ Y1 := ⟨_, rfl⟩
                all_goals have HP1 := Aside0.mk (show Z1.Perm (X1 ++ Y1) ∧ Z1.Pairwise (ltP cf) by rw [hZ1]; exact ⟨List.Perm.refl _, (by rw [List.eq_nil_of_length_eq_zero z_x1, List.nil_append]; exact HSS.out.2.2.1)⟩)
                all_goals have HH2 := Aside0.mk (show HoldI w1 g (P ++ (Z1 ++ (X2 ++ (Y2 ++ R)))) by have h := HH1.out; rw [hZ1, List.append_assoc]; exact h)
                all_goals clear HH1 hZ1
                all_goals have HS2 := Aside0.mk (HIH.out (P ++ Z1) X2 Y2 R mid en b L cap w1 TN.out.2.2.2.2.2.2.2.2.2 (HCO.out.later HG1.out) (by have h := HH2.out; rw [List.append_assoc]; exact h) (by have h1 := NM.out; have h2 := HLL.out; have h3 := HP1.out.1.length_eq; simp only [List.length_append] at h3 ⊢; omega) (by have h1 := NM.out; have h2 := HLL.out; have h3 := TN.out; (try simp only [List.length_append]); omega) (by have h1 := NM.out; have h2 := HLL.out; have h3 := TN.out; (try simp only [List.length_append]); omega) p_x2 p_y2 (by have h1 := NM.out; have h2 := HLL.out; have h3 := TN.out; (try simp only [List.length_append]); omega) NM.out.2.2.2.2.1 HSS.out.2.1 HSS.out.2.2.2 (fun x hx y hy => HLT.out x (HMX.out.2.1 x hx) y (HMX.out.2.2.2 y hy)) (fun x hx => HN.out.1 x (HMX.out.2.1 x hx)) (fun y hy => HN.out.2 y (HMX.out.2.2.2 y hy)))
                all_goals clear HH2
                all_goals go_wp2_with fail
                all_goals refine HS2.out.mono ?_
                all_goals rintro e w3 ⟨rfl, hg, Z2, p2, s2, hh⟩
                all_goals have HG3 := Aside0.mk (gr_trans HG1.out hg)
                all_goals have HP2 := Aside0.mk (⟨p2, s2⟩ : Z2.Perm (X2 ++ Y2) ∧ Z2.Pairwise (ltP cf))
                all_goals have HH3 := Aside0.mk (show HoldI w3 g (P ++ (Z1 ++ (Z2 ++ R))) by rwa [List.append_assoc] at hh)
                all_goals clear hg hh HS2 p2 s2 HG1
                all_goals have HEND := Aside0.mk (sym_done HXY.out.1 HXY.out.2 HXA.out HYA.out HT.out.1 HT.out.2 HP1.out.1 HP2.out.1 HP1.out.2 HP2.out.2 HH3.out)
                all_goals go_wp2
                all_goals go_end0
                all_goals exact ⟨rfl, HG3.out, HEND.out⟩
            · rcases Nat.eq_zero_or_pos Y2.length with z_y2 | p_y2
              · have q0 : (i : Int) < (m : Int) := Int.ofNat_lt.2 (TN.out.1.2 p_x2)
                have r0 : decide ((i : Int) < (m : Int)) = true := decide_eq_true q0
                have q1 : (m : Int) < (en : Int) := Int.ofNat_lt.2 (TN.out.2.1.2 p_y1)
                have r1 : decide ((m : Int) < (en : Int)) = true := decide_eq_true q1
                have q2 : (a : Int) < (i : Int) := Int.ofNat_lt.2 (TN.out.2.2.1.2 p_x1)
                have r2 : decide ((a : Int) < (i : Int)) = true := decide_eq_true q2
                have q3 : (i : Int) < (mid : Int) := Int.ofNat_lt.2 (TN.out.2.2.2.1.2 p_y1)
                have r3 : decide ((i : Int) < (mid : Int)) = true := decide_eq_true q3
                have q4 : (mid : Int) < (en : Int) := Int.ofNat_lt.2 (TN.out.2.2.2.2.1.2 p_x2)
                have r4 : decide ((mid : Int) < (en : Int)) = true := decide_eq_true q4
                have q5 : ¬ (en : Int) < (b : Int) := fun q => by have := TN.out.2.2.2.2.2.1.1 (Int.ofNat_lt.1 q); omega
                have r5 : decide ((en : Int) < (b : Int)) = false := decide_eq_false q5
                have HR := Aside0.mk (rot_calls g cap i m en L (P ++ X1) X2 Y1 (Y2 ++ R) (.func (.func fk) #[] caps) wr HH0.out (by have h1 := NM.out; have h2 := HLL.out; have h3 := TN.out; (try simp only [List.length_append]); omega) (by have h1 := NM.out; have h2 := HLL.out; have h3 := TN.out; (try simp only [List.length_append]); omega) (by have h1 := NM.out; have h2 := HLL.out; have h3 := TN.out; (try simp only [List.length_append]); omega) p_x2 p_y1 (by have h1 := NM.out; have h2 := HLL.out; have h3 := TN.out; (try simp only [List.length_append]); omega) NM.out.2.2.2.2.1)
                clear HH0
                go_wp2_with fail
                all_goals (try simp only [we])
                all_goals refine HR.out.mono ?_
                all_goals rintro e w1 ⟨rfl, hg, hh⟩
                all_goals have HG1 := Aside0.mk (gr_trans HG.out hg)
                all_goals have HH1 := Aside0.mk (show HoldI w1 g (P ++ (X1 ++ (Y1 ++ (X2 ++ (Y2 ++ R))))) by rwa [List.append_assoc] at hh)
                all_goals clear hg hh HR HG
                all_goals have HS1 := Aside0.mk (HIH.out P X1 Y1 (X2 ++ (Y2 ++ R)) a i mid L cap w1 TN.out.2.2.2.2.2.2.2.2.1 (HCO.out.later HG1.out) HH1.out NM.out.1 (by have h1 := NM.out; have h2 := HLL.out; have h3 := TN.out; (try simp only [List.length_append]); omega) (by have h1 := NM.out; have h2 := HLL.out; have h3 := TN.out; (try simp only [List.length_append]); omega) p_x1 p_y1 (by have h1 := NM.out; have h2 := HLL.out; have h3 := TN.out; (try simp only [List.length_append]); omega) NM.out.2.2.2.2.1 HSS.out.1 HSS.out.2.2.1 (fun x hx y hy => HLT.out x (HMX.out.1 x hx) y (HMX.out.2.2.1 y hy)) (fun x hx => HN.out.1 x (HMX.out.1 x hx)) (fun y hy => HN.out.2 y (HMX.out.2.2.1 y hy)))
                all_goals clear HH1
                all_goals go_wp2_with fail
                all_goals refine HS1.out.mono ?_
                all_goals rintro e w2 ⟨rfl, hg, Z1, p1, s1, hh⟩
                all_goals have HG2 := Aside0.mk (gr_trans HG1.out hg)
                all_goals have HP1 := Aside0.mk (⟨p1, s1⟩ : Z1.Perm (X1 ++ Y1) ∧ Z1.Pairwise (ltP cf))
                all_goals have HH2 := Aside0.mk hh
                all_goals clear hg hh HS1 p1 s1 HG1
                all_goals obtain ⟨Z2, hZ2⟩ : ∃ l, l = X2 ++ Y2 := ⟨_, rfl⟩
                all_goals have HP2 := Aside0.mk (show Z2.Perm (X2 ++ Y2) ∧ Z2.Pairwise (ltP cf) by rw [hZ2]; exact ⟨List.Perm.refl _, (by rw [List.eq_nil_of_length_eq_zero z_y2, List.append_nil]; exact HSS.out.2.1)⟩)
                all_goals have HH3 := Aside0.mk (show HoldI w2 g (P ++ (Z1 ++ (Z2 ++ R))) by have h := HH2.out; rw [hZ2, List.append_assoc]; exact h)
                all_goals clear HH2 hZ2
                all_goals have HEND := Aside0.mk (sym_done HXY.out.1 HXY.out.2 HXA.out HYA.out HT.out.1 HT.out.2 HP1.out.1 HP2.out.1 HP1.out.2 HP2.out.2 HH3.out)
                all_goals go_wp2
                all_goals go_end0
                all_goals exact ⟨rfl, HG2.out, HEND.out⟩
              · have q0 : (i : Int) < (m : Int) := Int.ofNat_lt.2 (TN.out.1.2 p_x2)
                have r0 : decide ((i : Int) < (m : Int)) = true := decide_eq_true q0
                have q1 : (m : Int) < (en : Int) := Int.ofNat_lt.2 (TN.out.2.1.2 p_y1)
                have r1 : decide ((m : Int) < (en : Int)) = true := decide_eq_true q1
                have q2 : (a : Int) < (i : Int) := Int.ofNat_lt.2 (TN.out.2.2.1.2 p_x1)
                have r2 : decide ((a : Int) < (i : Int)) = true := decide_eq_true q2
                have q3 : (i : Int) < (mid : Int) := Int.ofNat_lt.2 (TN.out.2.2.2.1.2 p_y1)
                have r3 : decide ((i : Int) < (mid : Int)) = true := decide_eq_true q3
                have q4 : (mid : Int) < (en : Int) := Int.ofNat_lt.2 (TN.out.2.2.2.2.1.2 p_x2)
                have r4 : decide ((mid : Int) < (en : Int)) = true := decide_eq_true q4
                have q5 : (en : Int) < (b : Int) := Int.ofNat_lt.2 (TN.out.2.2.2.2.2.1.2 p_y2)
                have r5 : decide ((en : Int) < (b : Int)) = true := decide_eq_true q5
                have HR := Aside0.mk (rot_calls g cap i m en L (P ++ X1) X2 Y1 (Y2 ++ R) (.func (.func fk) #[] caps) wr HH0.out (by have h1 := NM.out; have h2 := HLL.out; have h3 := TN.out; (try simp only [List.length_append]); omega) (by have h1 := NM.out; have h2 := HLL.out; have h3 := TN.out; (try simp only [List.length_append]); omega) (by have h1 := NM.out; have h2 := HLL.out; have h3 := TN.out; (try simp only [List.length_append]); omega) p_x2 p_y1 (by have h1 := NM.out; have h2 := HLL.out; have h3 := TN.out; (try simp only [List.length_append]); omega) NM.out.2.2.2.2.1)
                clear HH0
                go_wp2_with fail
                all_goals (try simp only [we])
                all_goals refine HR.out.mono ?_
                all_goals rintro e w1 ⟨rfl, hg, hh⟩
                all_goals have HG1 := Aside0.mk (gr_trans HG.out hg)
                all_goals have HH1 := Aside0.mk (show HoldI w1 g (P ++ (X1 ++ (Y1 ++ (X2 ++ (Y2 ++ R))))) by rwa [List.append_assoc] at hh)
                all_goals clear hg hh HR HG
                all_goals have HS1 := Aside0.mk (HIH.out P X1 Y1 (X2 ++ (Y2 ++ R)) a i mid L cap w1 TN.out.2.2.2.2.2.2.2.2.1 (HCO.out.later HG1.out) HH1.out NM.out.1 (by have h1 := NM.out; have h2 := HLL.out; have h3 := TN.out; (try simp only [List.length_append]); omega) (by have h1 := NM.out; have h2 := HLL.out; have h3 := TN.out; (try simp only [List.length_append]); omega) p_x1 p_y1 (by have h1 := NM.out; have h2 := HLL.out; have h3 := TN.out; (try simp only [List.length_append]); omega) NM.out.2.2.2.2.1 HSS.out.1 HSS.out.2.2.1 (fun x hx y hy => HLT.out x (HMX.out.1 x hx) y (HMX.out.2.2.1 y hy)) (fun x hx => HN.out.1 x (HMX.out.1 x hx)) (fun y hy => HN.out.2 y (HMX.out.2.2.1 y hy)))
                all_goals clear HH1
                all_goals go_wp2_with fail
                all_goals refine HS1.out.mono ?_
                all_goals rintro e w2 ⟨rfl, hg, Z1, p1, s1, hh⟩
                all_goals have HG2 := Aside0.mk (gr_trans HG1.out hg)
                all_goals have HP1 := Aside0.mk (⟨p1, s1⟩ : Z1.Perm (X1 ++ Y1) ∧ Z1.Pairwise (ltP cf))
                all_goals have HH2 := Aside0.mk hh
                all_goals clear hg hh HS1 p1 s1 HG1
                all_goals have HS2 := Aside0.mk (HIH.out (P ++ Z1) X2 Y2 R mid en b L cap w2 TN.out.2.2.2.2.2.2.2.2.2 (HCO.out.later HG2.out) (by have h := HH2.out; rw [List.append_assoc]; exact h) (by have h1 := NM.out; have h2 := HLL.out; have h3 := HP1.out.1.length_eq; simp only [List.length_append] at h3 ⊢; omega) (by have h1 := NM.out; have h2 := HLL.out; have h3 := TN.out; (try simp only [List.length_append]); omega) (by have h1 := NM.out; have h2 := HLL.out; have h3 := TN.out; (try simp only [List.length_append]); omega) p_x2 p_y2 (by have h1 := NM.out; have h2 := HLL.out; have h3 := TN.out; (try simp only [List.length_append]); omega) NM.out.2.2.2.2.1 HSS.out.2.1 HSS.out.2.2.2 (fun x hx y hy => HLT.out x (HMX.out.2.1 x hx) y (HMX.out.2.2.2 y hy)) (fun x hx => HN.out.1 x (HMX.out.2.1 x hx)) (fun y hy => HN.out.2 y (HMX.out.2.2.2 y hy)))
                all_goals clear HH2
                all_goals go_wp2_with fail
                all_goals refine HS2.out.mono ?_
                all_goals rintro e w3 ⟨rfl, hg, Z2, p2, s2, hh⟩
                all_goals have HG3 := Aside0.mk (gr_trans HG2.out hg)
                all_goals have HP2 := Aside0.mk (⟨p2, s2⟩ : Z2.Perm (X2 ++ Y2) ∧ Z2.Pairwise (ltP cf))
                all_goals have HH3 := Aside0.mk (show HoldI w3 g (P ++ (Z1 ++ (Z2 ++ R))) by rwa [List.append_assoc] at hh)
                all_goals clear hg hh HS2 p2 s2 HG2
                all_goals have HEND := Aside0.mk (sym_done HXY.out.1 HXY.out.2 HXA.out HYA.out HT.out.1 HT.out.2 HP1.out.1 HP2.out.1 HP1.out.2 HP2.out.2 HH3.out)
                all_goals go_wp2
                all_goals go_end0
                all_goals exact ⟨rfl, HG3.out, HEND.out⟩
  · have HF := Aside0.mk (mid_facts ORD.out.1 ORD.out.2 (by rw [← NB.out.1]; exact NB.out.2.1) NB.out.2.2.1 NB.out.2.2.2 (.inr ⟨Nat.le_of_not_lt cm, rfl, rfl⟩))
    have c1 : ¬ (mid : Int) < (m : Int) := fun q => cm (Int.ofNat_lt.1 q)
    have c2 : decide ((m : Int) > (mid : Int)) = false := decide_eq_false c1
    go_enter Try.func115, Try.ntmps115
    go_wp2
    (try simp only [w1, w2, w3, d1, d2, d3, d4])
    clear w1 w2 w3 d1 d2 d3 d4 d0 d0' d00 d00' 
    go_loopg [20, 21] (m - a) (fun kq v10 v11 wr => ∃ (i j : Nat), v10 = .int .i64 (i : Int) ∧ v11 = .int .i64 (j : Int) ∧ Aside0 (a ≤ i ∧ i ≤ j ∧ j ≤ m ∧ j - i ≤ kq) ∧ Aside0 ((i = a ∨ ¬ cf (Y.getD (p - (i - 1) - m) 0) (X.getD (i - 1 - a) 0) < 0) ∧ (j = m ∨ cf (Y.getD (p - j - m) 0) (X.getD (j - a) 0) < 0)) ∧ Aside0 (HoldI wr g (P ++ (X ++ (Y ++ R)))) ∧ Aside0 (w.grownBy wr (some g)))
    case atStart => exact ⟨a, m, rfl, rfl, ⟨Nat.le_refl _, HF.out.2.2.2.1, Nat.le_refl _, Nat.le_refl _⟩, ⟨.inl rfl, .inl rfl⟩, HH, HG⟩
    case round =>
      clear HH HG c1 c2
      obtain ⟨i, j, rfl, rfl, HI, HBD, HH, HG⟩ := hrel
      by_cases cij : i < j
      · have cij1 : (i : Int) < (j : Int) := by omega
        have cij2 : decide ((i : Int) < (j : Int)) = true := decide_eq_true cij1
        obtain ⟨k1, rfl⟩ : ∃ k1, gk = k1 + 1 := ⟨gk - 1, by have := HI.out; omega⟩
        obtain ⟨s, hs⟩ : ∃ s, s = i + j := ⟨_, rfl⟩
        obtain ⟨h, hh⟩ : ∃ h, h = s / 2 := ⟨_, rfl⟩
        have HR := Aside0.mk (show i ≤ h ∧ h < j by omega)
        have hcr := HF.out.2.2.2.2.2.2.2.1 h (by have := HI.out; have := HR.out; omega) (by have := HI.out; have := HR.out; omega)
        have hsb : s < 4611686018427387904 := by have h1 := HI.out; have h2 := HF.out.2.2.2.2.1; have h3 := NM.out; have h4 := BND.out.2.2; have h5 := ORD.out; omega
        obtain ⟨q, hq⟩ : ∃ q, h = a + q := ⟨h - a, by omega⟩
        obtain ⟨e, he⟩ : ∃ e, p = e + h := ⟨p - h, by have := ORD.out; omega⟩
        obtain ⟨f, hf⟩ : ∃ f, e = m + f := ⟨e - m, by omega⟩
        have hql : q < X.length := by have h2 := NM.out; omega
        have hfl : f < Y.length := by have h2 := NM.out; omega
        obtain ⟨x, hx⟩ : ∃ x, X[q]? = some x := ⟨X[q], List.getElem?_eq_getElem hql⟩
        obtain ⟨y, hy⟩ : ∃ y, Y[f]? = some y := ⟨Y[f], List.getElem?_eq_getElem hfl⟩
        have hxD : X.getD q 0 = x := by rw [List.getD_eq_getElem?_getD, hx]; rfl
        have hyD : Y.getD f 0 = y := by rw [List.getD_eq_getElem?_getD, hy]; rfl
        have gh : (P ++ (X ++ (Y ++ R)))[h]? = some x := by
          rw [hq, List.getElem?_append_right (by have := NM.out; omega), show a + q - P.length = q by have := NM.out; omega, List.getElem?_append_left hql]
          exact hx
        have gy : (P ++ (X ++ (Y ++ R)))[e]? = some y := by
          rw [hf, List.getElem?_append_right (by have := NM.out; omega), List.getElem?_append_right (by have := NM.out; omega), show m + f - P.length - X.length = f by have := NM.out; omega, List.getElem?_append_left hfl]
          exact hy
        have ch := HH.out.cell gh
        have cy := HH.out.cell gy
        have hxN := HN.out.1 x (List.mem_of_getElem? hx)
        have hyN := HN.out.2 y (List.mem_of_getElem? hy)
        have HQ := Aside0.mk (⟨hq, hxD, he, hf, hyD⟩ : h = a + q ∧ X.getD q 0 = x ∧ p = e + h ∧ e = m + f ∧ Y.getD f 0 = y)
        have hLb := BND.out.2.2
        have z1 : (h : Int) < (L : Int) := by have := ORD.out; omega
        have z2 : (0 : Int) ≤ (h : Int) := by omega
        have z3 : (e : Int) < (L : Int) := by omega
        have z4 : (0 : Int) ≤ (e : Int) := by omega
        have HW := Aside0.mk (show wrap64 ((h : Int) + 1) = ((h + 1 : Nat) : Int) from wrap_one (by omega))
        have wp : wrap64 ((p : Int) - (h : Int)) = (e : Int) := wrap_dif he (by have h1 := BND.out.2.1; have h2 := NB.out.2.2.2; omega)
        have wp' : IntKind.i64.wrap ((p : Int) - (h : Int)) = (e : Int) := wrap_difK he (by have h1 := BND.out.2.1; have h2 := NB.out.2.2.2; clear wp; omega)
        have hwr := half_wrap hs hh hsb
        obtain ⟨w1, w2, w3⟩ := hwr
        clear hs hh hsb hq hql hx hxD gh gy hcr he hf hfl hy hyD hLb
        by_cases ct : cf y x < 0
        · have ct1 : decide (cf y x < 0) = true := decide_eq_true ct
          go_wp2_with fail
          go_region_held3 (fun w' => w'.cell? ⟨g, h, none⟩ = some (enN x) ∧ w'.cell? ⟨g, e, none⟩ = some (enN y))
            (first | go_keep | (refine ⟨?_, ?_⟩ <;> refine pw_cell_below hbl ?_ <;> first | assumption | (simp only [*]; done)))
            (first | (refine (HCO.out.call _ y x (by first | exact HG.out | exact gr_drew HG.out) hyN hxN).mono ?_; rintro e_ w' ⟨rfl, hbl⟩; have n0_ := Aside0.mk (gr_below (by first | exact HG.out | exact gr_drew HG.out) hbl); have n1_ := Aside0.mk (HoldI.below (by first | exact HH.out | exact HH.out.drew) hbl); clear HG HH; have HG := n0_; have HH := n1_; clear n0_ n1_))
          clear ch cy w1 w2 w3 wp wp'
          go_wp2
          go_roundg k1
          case measure => omega
          case rel => exact ⟨i, h, rfl, rfl, ⟨by have h1 := HI.out; have h2 := HR.out; omega⟩, ⟨HBD.out.1, .inr (by rw [show h - a = q by have := HQ.out.1; omega, show p - h - m = f by have := HQ.out; omega, HQ.out.2.1, HQ.out.2.2.2.2]; exact ct)⟩, HH, HG⟩
        · have ct1 : decide (cf y x < 0) = false := decide_eq_false ct
          go_wp2_with fail
          go_region_held3 (fun w' => w'.cell? ⟨g, h, none⟩ = some (enN x) ∧ w'.cell? ⟨g, e, none⟩ = some (enN y))
            (first | go_keep | (refine ⟨?_, ?_⟩ <;> refine pw_cell_below hbl ?_ <;> first | assumption | (simp only [*]; done)))
            (first | (refine (HCO.out.call _ y x (by first | exact HG.out | exact gr_drew HG.out) hyN hxN).mono ?_; rintro e_ w' ⟨rfl, hbl⟩; have n0_ := Aside0.mk (gr_below (by first | exact HG.out | exact gr_drew HG.out) hbl); have n1_ := Aside0.mk (HoldI.below (by first | exact HH.out | exact HH.out.drew) hbl); clear HG HH; have HG := n0_; have HH := n1_; clear n0_ n1_))
          clear ch cy w1 w2 w3 wp wp'
          go_wp2
          go_roundg k1
          case measure => omega
          case rel => exact ⟨h + 1, j, by first | rw [HW.out] | rfl | go_num, rfl, ⟨by have h1 := HI.out; have h2 := HR.out; omega⟩, ⟨.inr (by rw [show h + 1 - 1 = h by omega, show h - a = q by have := HQ.out.1; omega, show p - h - m = f by have := HQ.out; omega, HQ.out.2.1, HQ.out.2.2.2.2]; exact ct), HBD.out.2⟩, HH, HG⟩
      · have cij1 : ¬ (i : Int) < (j : Int) := by omega
        have cij2 : decide ((i : Int) < (j : Int)) = false := decide_eq_false cij1
        have eij : i = j := by have := HI.out; omega
        subst eij
        obtain ⟨u, hu⟩ : ∃ u, i = a + u := ⟨i - a, by have h1 := HI.out; have h2 := HF.out.2.2.1; omega⟩
        have hes := HF.out.2.2.2.2.2.2.2.2.1 i HI.out.1 HI.out.2.2.1
        obtain ⟨en, hen⟩ : ∃ e, n = e + i := ⟨n - i, by omega⟩
        obtain ⟨v, hv⟩ : ∃ v, en = m + v := ⟨en - m, by omega⟩
        have hub : u ≤ X.length := by have h1 := HI.out; have h2 := HF.out.2.2.2.2.1; have h3 := NM.out; omega
        have hvb : v ≤ Y.length := by have h3 := NM.out; omega
        have hmv : mid = a + u + v := by have h1 := NB.out; omega
        have getX : ∀ k, k < X.length → X[k]? = some (X.getD k 0) := fun k hk => by rw [List.getD_eq_getElem?_getD, List.getElem?_eq_getElem hk]; rfl
        have getY : ∀ k, k < Y.length → Y[k]? = some (Y.getD k 0) := fun k hk => by rw [List.getD_eq_getElem?_getD, List.getElem?_eq_getElem hk]; rfl
        have T12 : ∀ x ∈ X.take u, ∀ y ∈ Y.drop v, ltP cf x y := split_ok ho HXA.out HYA.out u v hub hvb (by
          rcases HBD.out.1 with q | q
          · rcases HF.out.2.2.2.2.2.2.2.2.2.1 i q with r1 | r1
            · left; omega
            · right; left; have h3 := NM.out; omega
          · by_cases u0 : u = 0
            · exact .inl u0
            · by_cases v0 : v = Y.length
              · exact .inr (.inl v0)
              · right; right
                refine ⟨_, _, getX (u - 1) (by omega), getY v (by omega), ltP_forth ho (HLT.out _ (List.mem_of_getElem? (getX (u - 1) (by omega))) _ (List.mem_of_getElem? (getY v (by omega)))) ?_⟩
                rwa [show p - (i - 1) - m = v by have h1 := NB.out; omega, show i - 1 - a = u - 1 by omega] at q)
        have T21 : ∀ y ∈ Y.take v, ∀ x ∈ X.drop u, ltP cf y x := split_ok ho HYA.out HXA.out v u hvb hub (by
          rcases HBD.out.2 with q | q
          · rcases HF.out.2.2.2.2.2.2.2.2.2.2 i q with r1 | r1
            · left; omega
            · right; left; have h3 := NM.out; omega
          · by_cases v0 : v = 0
            · exact .inl v0
            · by_cases u0 : u = X.length
              · exact .inr (.inl u0)
              · right; right
                refine ⟨_, _, getY (v - 1) (by omega), getX u (by omega), .inl ?_⟩
                rwa [show p - i - m = v - 1 by have h1 := NB.out; omega, show i - a = u by omega] at q)
        have sX := pw_take_drop HXA.out u
        have sY := pw_take_drop HYA.out v
        obtain ⟨X1, hX1⟩ : ∃ l, l = X.take u := ⟨_, rfl⟩
        obtain ⟨X2, hX2⟩ : ∃ l, l = X.drop u := ⟨_, rfl⟩
        obtain ⟨Y1, hY1⟩ : ∃ l, l = Y.take v := ⟨_, rfl⟩
        obtain ⟨Y2, hY2⟩ : ∃ l, l = Y.drop v := ⟨_, rfl⟩
        have eX : X = X1 ++ X2 := by rw [hX1, hX2]; exact (List.take_append_drop u X).symm
        have eY : Y = Y1 ++ Y2 := by rw [hY1, hY2]; exact (List.take_append_drop v Y).symm
        have lX1 : X1.length = u := by rw [hX1, List.length_take]; omega
        have lY1 : Y1.length = v := by rw [hY1, List.length_take]; omega
        rw [← hX1, ← hY2] at T12
        rw [← hY1, ← hX2] at T21
        rw [← hX1, ← hX2] at sX
        rw [← hY1, ← hY2] at sY
        clear hX1 hX2 hY1 hY2 hub hvb getX getY
        have lX : X.length = X1.length + X2.length := by rw [eX, List.length_append]
        have lY : Y.length = Y1.length + Y2.length := by rw [eY, List.length_append]
        have HXY := Aside0.mk (⟨eX, eY⟩ : X = X1 ++ X2 ∧ Y = Y1 ++ Y2)
        have HT := Aside0.mk (⟨T12, T21⟩ : (∀ x ∈ X1, ∀ y ∈ Y2, ltP cf x y) ∧ ∀ y ∈ Y1, ∀ x ∈ X2, ltP cf y x)
        have HSS := Aside0.mk (⟨sX.1, sX.2.1, sY.1, sY.2.1⟩ : X1.Pairwise (ltP cf) ∧ X2.Pairwise (ltP cf) ∧ Y1.Pairwise (ltP cf) ∧ Y2.Pairwise (ltP cf))
        subst lX1
        subst lY1
        have TN := Aside0.mk (tail_nums NM.out lX lY hu hv hmv ⟨HF.out.1, HF.out.2.1⟩)
        have we : wrap64 ((n : Int) - (i : Int)) = (en : Int) := wrap_dif hen BND.out.2.1
        have HLL := Aside0.mk (⟨hu, hv, hmv, lX, lY⟩ : i = a + X1.length ∧ en = m + Y1.length ∧ mid = a + X1.length + Y1.length ∧ X.length = X1.length + X2.length ∧ Y.length = Y1.length + Y2.length)
        have HH0 := Aside0.mk (show HoldI wr g ((P ++ X1) ++ (X2 ++ (Y1 ++ (Y2 ++ R)))) by
          have e : (P ++ X1) ++ (X2 ++ (Y1 ++ (Y2 ++ R))) = P ++ (X ++ (Y ++ R)) := by rw [HXY.out.1, HXY.out.2]; simp
          rw [e]; exact HH.out)
        have HMX := Aside0.mk (⟨fun x hx => List.mem_append_left _ hx, fun x hx => List.mem_append_right _ hx, fun x hx => List.mem_append_left _ hx, fun x hx => List.mem_append_right _ hx⟩ : (∀ x ∈ X1, x ∈ X1 ++ X2) ∧ (∀ x ∈ X2, x ∈ X1 ++ X2) ∧ (∀ x ∈ Y1, x ∈ Y1 ++ Y2) ∧ (∀ x ∈ Y2, x ∈ Y1 ++ Y2))
        rw [← eX, ← eY] at HMX
        clear hu hv hmv hes hen T12 T21 sX sY eX eY lX lY HH HBD HI
        rcases Nat.eq_zero_or_pos X2.length with z_x2 | p_x2
        · rcases Nat.eq_zero_or_pos Y1.length with z_y1 | p_y1
          · have p_x1 : 0 < X1.length := TN.out.2.2.2.2.2.2.1 z_x2
            have p_y2 : 0 < Y2.length := (TN.out.2.2.2.2.2.2.2.1 z_y1).2
            have q0 : ¬ (i : Int) < (m : Int) := fun q => by have := TN.out.1.1 (Int.ofNat_lt.1 q); omega
            have r0 : decide ((i : Int) < (m : Int)) = false := decide_eq_false q0
            have q1 : ¬ (m : Int) < (en : Int) := fun q => by have := TN.out.2.1.1 (Int.ofNat_lt.1 q); omega
            have r1 : decide ((m : Int) < (en : Int)) = false := decide_eq_false q1
            have q2 : (a : Int) < (i : Int) := Int.ofNat_lt.2 (TN.out.2.2.1.2 p_x1)
            have r2 : decide ((a : Int) < (i : Int)) = true := decide_eq_true q2
            have q3 : ¬ (i : Int) < (mid : Int) := fun q => by have := TN.out.2.2.2.1.1 (Int.ofNat_lt.1 q); omega
            have r3 : decide ((i : Int) < (mid : Int)) = false := decide_eq_false q3
            have q4 : ¬ (mid : Int) < (en : Int) := fun q => by have := TN.out.2.2.2.2.1.1 (Int.ofNat_lt.1 q); omega
            have r4 : decide ((mid : Int) < (en : Int)) = false := decide_eq_false q4
            have q5 : (en : Int) < (b : Int) := Int.ofNat_lt.2 (TN.out.2.2.2.2.2.1.2 p_y2)
            have r5 : decide ((en : Int) < (b : Int)) = true := decide_eq_true q5
            have HH1 := Aside0.mk (show HoldI wr g (P ++ (X1 ++ (Y1 ++ (X2 ++ (Y2 ++ R))))) by
              have e : P ++ (X1 ++ (Y1 ++ (X2 ++ (Y2 ++ R)))) = (P ++ X1) ++ (X2 ++ (Y1 ++ (Y2 ++ R))) := by rw [List.eq_nil_of_length_eq_zero z_x2]; simp
              rw [e]; exact HH0.out)
            clear HH0
            obtain ⟨Z1, hZ1⟩ : ∃ l, l = X1 ++ Y1 := ⟨_, rfl⟩
            have HP1 := Aside0.mk (show Z1.Perm (X1 ++ Y1) ∧ Z1.Pairwise (ltP cf) by rw [hZ1]; exact ⟨List.Perm.refl _, (by rw [List.eq_nil_of_length_eq_zero z_y1, List.append_nil]; exact HSS.out.1)⟩)
            have HH2 := Aside0.mk (show HoldI wr g (P ++ (Z1 ++ (X2 ++ (Y2 ++ R)))) by have h := HH1.out; rw [hZ1, List.append_assoc]; exact h)
            clear HH1 hZ1
            obtain ⟨Z2, hZ2⟩ : ∃ l, l = X2 ++ Y2 := ⟨_, rfl⟩
            have HP2 := Aside0.mk (show Z2.Perm (X2 ++ Y2) ∧ Z2.Pairwise (ltP cf) by rw [hZ2]; exact ⟨List.Perm.refl _, (by rw [List.eq_nil_of_length_eq_zero z_x2, List.nil_append]; exact HSS.out.2.2.2)⟩)
            have HH3 := Aside0.mk (show HoldI wr g (P ++ (Z1 ++ (Z2 ++ R))) by have h := HH2.out; rw [hZ2, List.append_assoc]; exact h)
            clear HH2 hZ2
            have HEND := Aside0.mk (sym_done HXY.out.1 HXY.out.2 HXA.out HYA.out HT.out.1 HT.out.2 HP1.out.1 HP2.out.1 HP1.out.2 HP2.out.2 HH3.out)
            go_wp2
            all_goals go_end0
            all_goals exact ⟨rfl, HG.out, HEND.out⟩
          · have p_x1 : 0 < X1.length := TN.out.2.2.2.2.2.2.1 z_x2
            have q0 : ¬ (i : Int) < (m : Int) := fun q => by have := TN.out.1.1 (Int.ofNat_lt.1 q); omega
            have r0 : decide ((i : Int) < (m : Int)) = false := decide_eq_false q0
            have q1 : (m : Int) < (en : Int) := Int.ofNat_lt.2 (TN.out.2.1.2 p_y1)
            have r1 : decide ((m : Int) < (en : Int)) = true := decide_eq_true q1
            have q2 : (a : Int) < (i : Int) := Int.ofNat_lt.2 (TN.out.2.2.1.2 p_x1)
            have r2 : decide ((a : Int) < (i : Int)) = true := decide_eq_true q2
            have q3 : (i : Int) < (mid : Int) := Int.ofNat_lt.2 (TN.out.2.2.2.1.2 p_y1)
            have r3 : decide ((i : Int) < (mid : Int)) = true := decide_eq_true q3
            have q4 : ¬ (mid : Int) < (en : Int) := fun q => by have := TN.out.2.2.2.2.1.1 (Int.ofNat_lt.1 q); omega
            have r4 : decide ((mid : Int) < (en : Int)) = false := decide_eq_false q4
            have HH1 := Aside0.mk (show HoldI wr g (P ++ (X1 ++ (Y1 ++ (X2 ++ (Y2 ++ R))))) by
              have e : P ++ (X1 ++ (Y1 ++ (X2 ++ (Y2 ++ R)))) = (P ++ X1) ++ (X2 ++ (Y1 ++ (Y2 ++ R))) := by rw [List.eq_nil_of_length_eq_zero z_x2]; simp
              rw [e]; exact HH0.out)
            clear HH0
            have HS1 := Aside0.mk (HIH.out P X1 Y1 (X2 ++ (Y2 ++ R)) a i mid L cap wr TN.out.2.2.2.2.2.2.2.2.1 (HCO.out.later HG.out) HH1.out NM.out.1 (by have h1 := NM.out; have h2 := HLL.out; have h3 := TN.out; (try simp only [List.length_append]); omega) (by have h1 := NM.out; have h2 := HLL.out; have h3 := TN.out; (try simp only [List.length_append]); omega) p_x1 p_y1 (by have h1 := NM.out; have h2 := HLL.out; have h3 := TN.out; (try simp only [List.length_append]); omega) NM.out.2.2.2.2.1 HSS.out.1 HSS.out.2.2.1 (fun x hx y hy => HLT.out x (HMX.out.1 x hx) y (HMX.out.2.2.1 y hy)) (fun x hx => HN.out.1 x (HMX.out.1 x hx)) (fun y hy => HN.out.2 y (HMX.out.2.2.1 y hy)))
            clear HH1
            go_wp2_with fail
            all_goals refine HS1.out.mono ?_
            all_goals rintro e w2 ⟨rfl, hg, Z1, p1, s1, hh⟩
            all_goals have HG2 := Aside0.mk (gr_trans HG.out hg)
            all_goals have HP1 := Aside0.mk (⟨p1, s1⟩ : Z1.Perm (X1 ++ Y1) ∧ Z1.Pairwise (ltP cf))
            all_goals have HH2 := Aside0.mk hh
            all_goals clear hg hh HS1 p1 s1 HG
            all_goals obtain ⟨Z2, hZ2⟩ : ∃ l, l = X2 ++ Y2 := ⟨_, rfl⟩
            all_goals have HP2 := Aside0.mk (show Z2.Perm (X2 ++ Y2) ∧ Z2.Pairwise (ltP cf) by rw [hZ2]; exact ⟨List.Perm.refl _, (by rw [List.eq_nil_of_length_eq_zero z_x2, List.nil_append]; exact HSS.out.2.2.2)⟩)
            all_goals have HH3 := Aside0.mk (show HoldI w2 g (P ++ (Z1 ++ (Z2 ++ R))) by have h := HH2.out; rw [hZ2, List.append_assoc]; exact h)
            all_goals clear HH2 hZ2
            all_goals have HEND := Aside0.mk (sym_done HXY.out.1 HXY.out.2 HXA.out HYA.out HT.out.1 HT.out.2 HP1.out.1 HP2.out.1 HP1.out.2 HP2.out.2 HH3.out)
            all_goals go_wp2
            all_goals go_end0
            all_goals exact ⟨rfl, HG2.out, HEND.out⟩
        · rcases Nat.eq_zero_or_pos Y1.length with z_y1 | p_y1
          · have p_x1 : 0 < X1.length := (TN.out.2.2.2.2.2.2.2.1 z_y1).1
            have p_y2 : 0 < Y2.length := (TN.out.2.2.2.2.2.2.2.1 z_y1).2
            have q0 : (i : Int) < (m : Int) := Int.ofNat_lt.2 (TN.out.1.2 p_x2)
            have r0 : decide ((i : Int) < (m : Int)) = true := decide_eq_true q0
            have q1 : ¬ (m : Int) < (en : Int) := fun q => by have := TN.out.2.1.1 (Int.ofNat_lt.1 q); omega
            have r1 : decide ((m : Int) < (en : Int)) = false := decide_eq_false q1
            have q2 : (a : Int) < (i : Int) := Int.ofNat_lt.2 (TN.out.2.2.1.2 p_x1)
            have r2 : decide ((a : Int) < (i : Int)) = true := decide_eq_true q2
            have q3 : ¬ (i : Int) < (mid : Int) := fun q => by have := TN.out.2.2.2.1.1 (Int.ofNat_lt.1 q); omega
            have r3 : decide ((i : Int) < (mid : Int)) = false := decide_eq_false q3
            have q4 : (mid : Int) < (en : Int) := Int.ofNat_lt.2 (TN.out.2.2.2.2.1.2 p_x2)
            have r4 : decide ((mid : Int) < (en : Int)) = true := decide_eq_true q4
            have q5 : (en : Int) < (b : Int) := Int.ofNat_lt.2 (TN.out.2.2.2.2.2.1.2 p_y2)
            have r5 : decide ((en : Int) < (b : Int)) = true := decide_eq_true q5
            have HH1 := Aside0.mk (show HoldI wr g (P ++ (X1 ++ (Y1 ++ (X2 ++ (Y2 ++ R))))) by
              have e : P ++ (X1 ++ (Y1 ++ (X2 ++ (Y2 ++ R)))) = (P ++ X1) ++ (X2 ++ (Y1 ++ (Y2 ++ R))) := by rw [List.eq_nil_of_length_eq_zero z_y1]; simp
              rw [e]; exact HH0.out)
            clear HH0
            obtain ⟨Z1, hZ1⟩ : ∃ l, l = X1 ++ Y1 := ⟨_, rfl⟩
            have HP1 := Aside0.mk (show Z1.Perm (X1 ++ Y1) ∧ Z1.Pairwise (ltP cf) by rw [hZ1]; exact ⟨List.Perm.refl _, (by rw [List.eq_nil_of_length_eq_zero z_y1, List.append_nil]; exact HSS.out.1)⟩)
            have HH2 := Aside0.mk (show HoldI wr g (P ++ (Z1 ++ (X2 ++ (Y2 ++ R)))) by have h := HH1.out; rw [hZ1, List.append_assoc]; exact h)
            clear HH1 hZ1
            have HS2 := Aside0.mk (HIH.out (P ++ Z1) X2 Y2 R mid en b L cap wr TN.out.2.2.2.2.2.2.2.2.2 (HCO.out.later HG.out) (by have h := HH2.out; rw [List.append_assoc]; exact h) (by have h1 := NM.out; have h2 := HLL.out; have h3 := HP1.out.1.length_eq; simp only [List.length_append] at h3 ⊢; omega) (by have h1 := NM.out; have h2 := HLL.out; have h3 := TN.out; (try simp only [List.length_append]); omega) (by have h1 := NM.out; have h2 := HLL.out; have h3 := TN.out; (try simp only [List.length_append]); omega) p_x2 p_y2 (by have h1 := NM.out; have h2 := HLL.out; have h3 := TN.out; (try simp only [List.length_append]); omega) NM.out.2.2.2.2.1 HSS.out.2.1 HSS.out.2.2.2 (fun x hx y hy => HLT.out x (HMX.out.2.1 x hx) y (HMX.out.2.2.2 y hy)) (fun x hx => HN.out.1 x (HMX.out.2.1 x hx)) (fun y hy => HN.out.2 y (HMX.out.2.2.2 y hy)))
            clear HH2
            go_wp2_with fail
            all_goals refine HS2.out.mono ?_
            all_goals rintro e w3 ⟨rfl, hg, Z2, p2, s2, hh⟩
            all_goals have HG3 := Aside0.mk (gr_trans HG.out hg)
            all_goals have HP2 := Aside0.mk (⟨p2, s2⟩ : Z2.Perm (X2 ++ Y2) ∧ Z2.Pairwise (ltP cf))
            all_goals have HH3 := Aside0.mk (show HoldI w3 g (P ++ (Z1 ++ (Z2 ++ R))) by rwa [List.append_assoc] at hh)
            all_goals clear hg hh HS2 p2 s2 HG
            all_goals have HEND := Aside0.mk (sym_done HXY.out.1 HXY.out.2 HXA.out HYA.out HT.out.1 HT.out.2 HP1.out.1 HP2.out.1 HP1.out.2 HP2.out.2 HH3.out)
            all_goals go_wp2
            all_goals go_end0
            all_goals exact ⟨rfl, HG3.out, HEND.out⟩
          · rcases Nat.eq_zero_or_pos X1.length with z_x1 | p_x1
            · rcases Nat.eq_zero_or_pos Y2.length with z_y2 | p_y2
              · have q0 : (i : Int) < (m : Int) := Int.ofNat_lt.2 (TN.out.1.2 p_x2)
                have r0 : decide ((i : Int) < (m : Int)) = true := decide_eq_true q0
                have q1 : (m : Int) < (en : Int) := Int.ofNat_lt.2 (TN.out.2.1.2 p_y1)
                have r1 : decide ((m : Int) < (en : Int)) = true := decide_eq_true q1
                have q2 : ¬ (a : Int) < (i : Int) := fun q => by have := TN.out.2.2.1.1 (Int.ofNat_lt.1 q); omega
                have r2 : decide ((a : Int) < (i : Int)) = false := decide_eq_false q2
                have q3 : (i : Int) < (mid : Int) := Int.ofNat_lt.2 (TN.out.2.2.2.1.2 p_y1)
                have r3 : decide ((i : Int) < (mid : Int)) = true := decide_eq_true q3
                have q4 : (mid : Int) < (en : Int) := Int.ofNat_lt.2 (TN.out.2.2.2.2.1.2 p_x2)
                have r4 : decide ((mid : Int) < (en : Int)) = true := decide_eq_true q4
                have q5 : ¬ (en : Int) < (b : Int) := fun q => by have := TN.out.2.2.2.2.2.1.1 (Int.ofNat_lt.1 q); omega
                have r5 : decide ((en : Int) < (b : Int)) = false := decide_eq_false q5
                have HR := Aside0.mk (rot_calls g cap i m en L (P ++ X1) X2 Y1 (Y2 ++ R) (.func (.func fk) #[] caps) wr HH0.out (by have h1 := NM.out; have h2 := HLL.out; have h3 := TN.out; (try simp only [List.length_append]); omega) (by have h1 := NM.out; have h2 := HLL.out; have h3 := TN.out; (try simp only [List.length_append]); omega) (by have h1 := NM.out; have h2 := HLL.out; have h3 := TN.out; (try simp only [List.length_append]); omega) p_x2 p_y1 (by have h1 := NM.out; have h2 := HLL.out; have h3 := TN.out; (try simp only [List.length_append]); omega) NM.out.2.2.2.2.1)
                clear HH0
                go_wp2_with fail
                all_goals (try simp only [we])
                all_goals refine HR.out.mono ?_
                all_goals rintro e w1 ⟨rfl, hg, hh⟩
                all_goals have HG1 := Aside0.mk (gr_trans HG.out hg)
                all_goals have HH1 := Aside0.mk (show HoldI w1 g (P ++ (X1 ++ (Y1 ++ (X2 ++ (Y2 ++ R))))) by rwa [List.append_assoc] at hh)
                all_goals clear hg hh HR HG
                all_goals obtain ⟨Z1, hZ1⟩ : ∃ l, l = X1 ++ Y1 := ⟨_, rfl⟩
                all_goals have HP1 := Aside0.mk (show Z1.Perm (X1 ++ Y1) ∧ Z1.Pairwise (ltP cf) by rw [hZ1]; exact ⟨List.Perm.refl _, (by rw [List.eq_nil_of_length_eq_zero z_x1, List.nil_append]; exact HSS.out.2.2.1)⟩)
                all_goals have HH2 := Aside0.mk (show HoldI w1 g (P ++ (Z1 ++ (X2 ++ (Y2 ++ R)))) by have h := HH1.out; rw [hZ1, List.append_assoc]; exact h)
                all_goals clear HH1 hZ1
                all_goals obtain ⟨Z2, hZ2⟩ : ∃ l, l = X2 ++ Y2 := ⟨_, rfl⟩
                all_goals have HP2 := Aside0.mk (show Z2.Perm (X2 ++ Y2) ∧ Z2.Pairwise (ltP cf) by rw [hZ2]; exact ⟨List.Perm.refl _, (by rw [List.eq_nil_of_length_eq_zero z_y2, List.append_nil]; exact HSS.out.2.1)⟩)
                all_goals have HH3 := Aside0.mk (show HoldI w1 g (P ++ (Z1 ++ (Z2 ++ R))) by have h := HH2.out; rw [hZ2, List.append_assoc]; exact h)
                all_goals clear HH2 hZ2
                all_goals have HEND := Aside0.mk (sym_done HXY.out.1 HXY.out.2 HXA.out HYA.out HT.out.1 HT.out.2 HP1.out.1 HP2.out.1 HP1.out.2 HP2.out.2 HH3.out)
                all_goals go_wp2
                all_goals go_end0
                all_goals exact ⟨rfl, HG1.out, HEND.out⟩
              · have q0 : (i : Int) < (m : Int) := Int.ofNat_lt.2 (TN.out.1.2 p_x2)
                have r0 : decide ((i : Int) < (m : Int)) = true := decide_eq_true q0
                have q1 : (m : Int) < (en : Int) := Int.ofNat_lt.2 (TN.out.2.1.2 p_y1)
                have r1 : decide ((m : Int) < (en : Int)) = true := decide_eq_true q1
                have q2 : ¬ (a : Int) < (i : Int) := fun q => by have := TN.out.2.2.1.1 (Int.ofNat_lt.1 q); omega
                have r2 : decide ((a : Int) < (i : Int)) = false := decide_eq_false q2
                have q3 : (i : Int) < (mid : Int) := Int.ofNat_lt.2 (TN.out.2.2.2.1.2 p_y1)
                have r3 : decide ((i : Int) < (mid : Int)) = true := decide_eq_true q3
                have q4 : (mid : Int) < (en : Int) := Int.ofNat_lt.2 (TN.out.2.2.2.2.1.2 p_x2)
                have r4 : decide ((mid : Int) < (en : Int)) = true := decide_eq_true q4
                have q5 : (en : Int) < (b : Int) := Int.ofNat_lt.2 (TN.out.2.2.2.2.2.1.2 p_y2)
                have r5 : decide ((en : Int) < (b : Int)) = true := decide_eq_true q5
                have HR := Aside0.mk (rot_calls g cap i m en L (P ++ X1) X2 Y1 (Y2 ++ R) (.func (.func fk) #[] caps) wr HH0.out (by have h1 := NM.out; have h2 := HLL.out; have h3 := TN.out; (try simp only [List.length_append]); omega) (by have h1 := NM.out; have h2 := HLL.out; have h3 := TN.out; (try simp only [List.length_append]); omega) (by have h1 := NM.out; have h2 := HLL.out; have h3 := TN.out; (try simp only [List.length_append]); omega) p_x2 p_y1 (by have h1 := NM.out; have h2 := HLL.out; have h3 := TN.out; (try simp only [List.length_append]); omega) NM.out.2.2.2.2.1)
                clear HH0
                go_wp2_with fail
                all_goals (try simp only [we])
                all_goals refine HR.out.mono ?_
                all_goals rintro e w1 ⟨rfl, hg, hh⟩
                all_goals have HG1 := Aside0.mk (gr_trans HG.out hg)
                all_goals have HH1 := Aside0.mk (show HoldI w1 g (P ++ (X1 ++ (Y1 ++ (X2 ++ (Y2 ++ R))))) by rwa [List.append_assoc] at hh)
                all_goals clear hg hh HR HG
                all_goals obtain ⟨Z1, hZ1⟩ : ∃ l, l = X1 ++ Y1 := ⟨_, rfl⟩
                all_goals have HP1 := Aside0.mk (show Z1.Perm (X1 ++ Y1) ∧ Z1.Pairwise (ltP cf) by rw [hZ1]; exact ⟨List.Perm.refl _, (by rw [List.eq_nil_of_length_eq_zero z_x1, List.nil_append]; exact HSS.out.2.2.1)⟩)
                all_goals have HH2 := Aside0.mk (show HoldI w1 g (P ++ (Z1 ++ (X2 ++ (Y2 ++ R)))) by have h := HH1.out; rw [hZ1, List.append_assoc]; exact h)
                all_goals clear HH1 hZ1
                all_goals have HS2 := Aside0.mk (HIH.out (P ++ Z1) X2 Y2 R mid en b L cap w1 TN.out.2.2.2.2.2.2.2.2.2 (HCO.out.later HG1.out) (by have h := HH2.out; rw [List.append_assoc]; exact h) (by have h1 := NM.out; have h2 := HLL.out; have h3 := HP1.out.1.length_eq; simp only [List.length_append] at h3 ⊢; omega) (by have h1 := NM.out; have h2 := HLL.out; have h3 := TN.out; (try simp only [List.length_append]); omega) (by have h1 := NM.out; have h2 := HLL.out; have h3 := TN.out; (try simp only [List.length_append]); omega) p_x2 p_y2 (by have h1 := NM.out; have h2 := HLL.out; have h3 := TN.out; (try simp only [List.length_append]); omega) NM.out.2.2.2.2.1 HSS.out.2.1 HSS.out.2.2.2 (fun x hx y hy => HLT.out x (HMX.out.2.1 x hx) y (HMX.out.2.2.2 y hy)) (fun x hx => HN.out.1 x (HMX.out.2.1 x hx)) (fun y hy => HN.out.2 y (HMX.out.2.2.2 y hy)))
                all_goals clear HH2
                all_goals go_wp2_with fail
                all_goals refine HS2.out.mono ?_
                all_goals rintro e w3 ⟨rfl, hg, Z2, p2, s2, hh⟩
                all_goals have HG3 := Aside0.mk (gr_trans HG1.out hg)
                all_goals have HP2 := Aside0.mk (⟨p2, s2⟩ : Z2.Perm (X2 ++ Y2) ∧ Z2.Pairwise (ltP cf))
                all_goals have HH3 := Aside0.mk (show HoldI w3 g (P ++ (Z1 ++ (Z2 ++ R))) by rwa [List.append_assoc] at hh)
                all_goals clear hg hh HS2 p2 s2 HG1
                all_goals have HEND := Aside0.mk (sym_done HXY.out.1 HXY.out.2 HXA.out HYA.out HT.out.1 HT.out.2 HP1.out.1 HP2.out.1 HP1.out.2 HP2.out.2 HH3.out)
                all_goals go_wp2
                all_goals go_end0
                all_goals exact ⟨rfl, HG3.out, HEND.out⟩
            · rcases Nat.eq_zero_or_pos Y2.length with z_y2 | p_y2
              · have q0 : (i : Int) < (m : Int) := Int.ofNat_lt.2 (TN.out.1.2 p_x2)
                have r0 : decide ((i : Int) < (m : Int)) = true := decide_eq_true q0
                have q1 : (m : Int) < (en : Int) := Int.ofNat_lt.2 (TN.out.2.1.2 p_y1)
                have r1 : decide ((m : Int) < (en : Int)) = true := decide_eq_true q1
                have q2 : (a : Int) < (i : Int) := Int.ofNat_lt.2 (TN.out.2.2.1.2 p_x1)
                have r2 : decide ((a : Int) < (i : Int)) = true := decide_eq_true q2
                have q3 : (i : Int) < (mid : Int) := Int.ofNat_lt.2 (TN.out.2.2.2.1.2 p_y1)
                have r3 : decide ((i : Int) < (mid : Int)) = true := decide_eq_true q3
                have q4 : (mid : Int) < (en : Int) := Int.ofNat_lt.2 (TN.out.2.2.2.2.1.2 p_x2)
                have r4 : decide ((mid : Int) < (en : Int)) = true := decide_eq_true q4
                have q5 : ¬ (en : Int) < (b : Int) := fun q => by have := TN.out.2.2.2.2.2.1.1 (Int.ofNat_lt.1 q); omega
                have r5 : decide ((en : Int) < (b : Int)) = false := decide_eq_false q5
                have HR := Aside0.mk (rot_calls g cap i m en L (P ++ X1) X2 Y1 (Y2 ++ R) (.func (.func fk) #[] caps) wr HH0.out (by have h1 := NM.out; have h2 := HLL.out; have h3 := TN.out; (try simp only [List.length_append]); omega) (by have h1 := NM.out; have h2 := HLL.out; have h3 := TN.out; (try simp only [List.length_append]); omega) (by have h1 := NM.out; have h2 := HLL.out; have h3 := TN.out; (try simp only [List.length_append]); omega) p_x2 p_y1 (by have h1 := NM.out; have h2 := HLL.out; have h3 := TN.out; (try simp only [List.length_append]); omega) NM.out.2.2.2.2.1)
                clear HH0
                go_wp2_with fail
                all_goals (try simp only [we])
                all_goals refine HR.out.mono ?_
                all_goals rintro e w1 ⟨rfl, hg, hh⟩
                all_goals have HG1 := Aside0.mk (gr_trans HG.out hg)
                all_goals have HH1 := Aside0.mk (show HoldI w1 g (P ++ (X1 ++ (Y1 ++ (X2 ++ (Y2 ++ R))))) by rwa [List.append_assoc] at hh)
                all_goals clear hg hh HR HG
                all_goals have HS1 := Aside0.mk (HIH.out P X1 Y1 (X2 ++ (Y2 ++ R)) a i mid L cap w1 TN.out.2.2.2.2.2.2.2.2.1 (HCO.out.later HG1.out) HH1.out NM.out.1 (by have h1 := NM.out; have h2 := HLL.out; have h3 := TN.out; (try simp only [List.length_append]); omega) (by have h1 := NM.out; have h2 := HLL.out; have h3 := TN.out; (try simp only [List.length_append]); omega) p_x1 p_y1 (by have h1 := NM.out; have h2 := HLL.out; have h3 := TN.out; (try simp only [List.length_append]); omega) NM.out.2.2.2.2.1 HSS.out.1 HSS.out.2.2.1 (fun x hx y hy => HLT.out x (HMX.out.1 x hx) y (HMX.out.2.2.1 y hy)) (fun x hx => HN.out.1 x (HMX.out.1 x hx)) (fun y hy => HN.out.2 y (HMX.out.2.2.1 y hy)))
                all_goals clear HH1
                all_goals go_wp2_with fail
                all_goals refine HS1.out.mono ?_
                all_goals rintro e w2 ⟨rfl, hg, Z1, p1, s1, hh⟩
                all_goals have HG2 := Aside0.mk (gr_trans HG1.out hg)
                all_goals have HP1 := Aside0.mk (⟨p1, s1⟩ : Z1.Perm (X1 ++ Y1) ∧ Z1.Pairwise (ltP cf))
                all_goals have HH2 := Aside0.mk hh
                all_goals clear hg hh HS1 p1 s1 HG1
                all_goals obtain ⟨Z2, hZ2⟩ : ∃ l, l = X2 ++ Y2 := ⟨_, rfl⟩
                all_goals have HP2 := Aside0.mk (show Z2.Perm (X2 ++ Y2) ∧ Z2.Pairwise (ltP cf) by rw [hZ2]; exact ⟨List.Perm.refl _, (by rw [List.eq_nil_of_length_eq_zero z_y2, List.append_nil]; exact HSS.out.2.1)⟩)
                all_goals have HH3 := Aside0.mk (show HoldI w2 g (P ++ (Z1 ++ (Z2 ++ R))) by have h := HH2.out; rw [hZ2, List.append_assoc]; exact h)
                all_goals clear HH2 hZ2
                all_goals have HEND := Aside0.mk (sym_done HXY.out.1 HXY.out.2 HXA.out HYA.out HT.out.1 HT.out.2 HP1.out.1 HP2.out.1 HP1.out.2 HP2.out.2 HH3.out)
                all_goals go_wp2
                all_goals go_end0
                all_goals exact ⟨rfl, HG2.out, HEND.out⟩
              · have q0 : (i : Int) < (m : Int) := Int.ofNat_lt.2 (TN.out.1.2 p_x2)
                have r0 : decide ((i : Int) < (m : Int)) = true := decide_eq_true q0
                have q1 : (m : Int) < (en : Int) := Int.ofNat_lt.2 (TN.out.2.1.2 p_y1)
                have r1 : decide ((m : Int) < (en : Int)) = true := decide_eq_true q1
                have q2 : (a : Int) < (i : Int) := Int.ofNat_lt.2 (TN.out.2.2.1.2 p_x1)
                have r2 : decide ((a : Int) < (i : Int)) = true := decide_eq_true q2
                have q3 : (i : Int) < (mid : Int) := Int.ofNat_lt.2 (TN.out.2.2.2.1.2 p_y1)
                have r3 : decide ((i : Int) < (mid : Int)) = true := decide_eq_true q3
                have q4 : (mid : Int) < (en : Int) := Int.ofNat_lt.2 (TN.out.2.2.2.2.1.2 p_x2)
                have r4 : decide ((mid : Int) < (en : Int)) = true := decide_eq_true q4
                have q5 : (en : Int) < (b : Int) := Int.ofNat_lt.2 (TN.out.2.2.2.2.2.1.2 p_y2)
                have r5 : decide ((en : Int) < (b : Int)) = true := decide_eq_true q5
                have HR := Aside0.mk (rot_calls g cap i m en L (P ++ X1) X2 Y1 (Y2 ++ R) (.func (.func fk) #[] caps) wr HH0.out (by have h1 := NM.out; have h2 := HLL.out; have h3 := TN.out; (try simp only [List.length_append]); omega) (by have h1 := NM.out; have h2 := HLL.out; have h3 := TN.out; (try simp only [List.length_append]); omega) (by have h1 := NM.out; have h2 := HLL.out; have h3 := TN.out; (try simp only [List.length_append]); omega) p_x2 p_y1 (by have h1 := NM.out; have h2 := HLL.out; have h3 := TN.out; (try simp only [List.length_append]); omega) NM.out.2.2.2.2.1)
                clear HH0
                go_wp2_with fail
                all_goals (try simp only [we])
                all_goals refine HR.out.mono ?_
                all_goals rintro e w1 ⟨rfl, hg, hh⟩
                all_goals have HG1 := Aside0.mk (gr_trans HG.out hg)
                all_goals have HH1 := Aside0.mk (show HoldI w1 g (P ++ (X1 ++ (Y1 ++ (X2 ++ (Y2 ++ R))))) by rwa [List.append_assoc] at hh)
                all_goals clear hg hh HR HG
                all_goals have HS1 := Aside0.mk (HIH.out P X1 Y1 (X2 ++ (Y2 ++ R)) a i mid L cap w1 TN.out.2.2.2.2.2.2.2.2.1 (HCO.out.later HG1.out) HH1.out NM.out.1 (by have h1 := NM.out; have h2 := HLL.out; have h3 := TN.out; (try simp only [List.length_append]); omega) (by have h1 := NM.out; have h2 := HLL.out; have h3 := TN.out; (try simp only [List.length_append]); omega) p_x1 p_y1 (by have h1 := NM.out; have h2 := HLL.out; have h3 := TN.out; (try simp only [List.length_append]); omega) NM.out.2.2.2.2.1 HSS.out.1 HSS.out.2.2.1 (fun x hx y hy => HLT.out x (HMX.out.1 x hx) y (HMX.out.2.2.1 y hy)) (fun x hx => HN.out.1 x (HMX.out.1 x hx)) (fun y hy => HN.out.2 y (HMX.out.2.2.1 y hy)))
                all_goals clear HH1
                all_goals go_wp2_with fail
                all_goals refine HS1.out.mono ?_
                all_goals rintro e w2 ⟨rfl, hg, Z1, p1, s1, hh⟩
                all_goals have HG2 := Aside0.mk (gr_trans HG1.out hg)
                all_goals have HP1 := Aside0.mk (⟨p1, s1⟩ : Z1.Perm (X1 ++ Y1) ∧ Z1.Pairwise (ltP cf))
                all_goals have HH2 := Aside0.mk hh
                all_goals clear hg hh HS1 p1 s1 HG1
                all_goals have HS2 := Aside0.mk (HIH.out (P ++ Z1) X2 Y2 R mid en b L cap w2 TN.out.2.2.2.2.2.2.2.2.2 (HCO.out.later HG2.out) (by have h := HH2.out; rw [List.append_assoc]; exact h) (by have h1 := NM.out; have h2 := HLL.out; have h3 := HP1.out.1.length_eq; simp only [List.length_append] at h3 ⊢; omega) (by have h1 := NM.out; have h2 := HLL.out; have h3 := TN.out; (try simp only [List.length_append]); omega) (by have h1 := NM.out; have h2 := HLL.out; have h3 := TN.out; (try simp only [List.length_append]); omega) p_x2 p_y2 (by have h1 := NM.out; have h2 := HLL.out; have h3 := TN.out; (try simp only [List.length_append]); omega) NM.out.2.2.2.2.1 HSS.out.2.1 HSS.out.2.2.2 (fun x hx y hy => HLT.out x (HMX.out.2.1 x hx) y (HMX.out.2.2.2 y hy)) (fun x hx => HN.out.1 x (HMX.out.2.1 x hx)) (fun y hy => HN.out.2 y (HMX.out.2.2.2 y hy)))
                all_goals clear HH2
                all_goals go_wp2_with fail
                all_goals refine HS2.out.mono ?_
                all_goals rintro e w3 ⟨rfl, hg, Z2, p2, s2, hh⟩
                all_goals have HG3 := Aside0.mk (gr_trans HG2.out hg)
                all_goals have HP2 := Aside0.mk (⟨p2, s2⟩ : Z2.Perm (X2 ++ Y2) ∧ Z2.Pairwise (ltP cf))
                all_goals have HH3 := Aside0.mk (show HoldI w3 g (P ++ (Z1 ++ (Z2 ++ R))) by rwa [List.append_assoc] at hh)
                all_goals clear hg hh HS2 p2 s2 HG2
                all_goals have HEND := Aside0.mk (sym_done HXY.out.1 HXY.out.2 HXA.out HYA.out HT.out.1 HT.out.2 HP1.out.1 HP2.out.1 HP1.out.2 HP2.out.2 HH3.out)
                all_goals go_wp2
                all_goals go_end0
                all_goals exact ⟨rfl, HG3.out, HEND.out⟩
end Go.Proofs.Ythghflgmeepnlaa.Pa
end
section
namespace Go.Proofs.Ythghflgmeepnlaa.Pa
open Go.RowKit Go.Proofs.YthghflgmeepnlaaW.PrintWords Go.Proofs.YthghflgmeepnlaaW.PrintLast Go.Proofs.YthghflgmeepnlaaW.PrintMore
set_option linter.unusedVariables false
set_option linter.unusedSimpArgs false
theorem sym_all {fk : Nat} {caps : Array Value} {cf : Nat → Nat → Int} {N g : Nat} (ho : OrdP cf) : ∀ n, SymGoal fk caps cf N g n
  | 0 => fun P X Y R a m b L cap w hn _ _ _ _ _ hx => by omega
  | n + 1 => fun P X Y R a m b L cap w hn hc hh ha hm hb hx hy hL hsz hX hY hlt hNX hNY => by
    by_cases x1 : X.length = 1
    · obtain ⟨x, rfl⟩ := List.length_eq_one_iff.1 x1
      refine (sym_left ho P Y R x a m b L cap w hc hh ha hm hb hL hsz hY (fun y hy => hlt x (by simp) y hy) ⟨hNX x (by simp), hNY⟩).mono ?_
      rintro e w' ⟨he, hg, Z, p, s, h⟩
      exact ⟨he, hg, Z, p, s, h⟩
    · by_cases y1 : Y.length = 1
      · obtain ⟨y, rfl⟩ := List.length_eq_one_iff.1 y1
        refine (sym_right ho P X R y a m b L cap w hc hh ha hm hb hL hsz x1 hX (fun x hx => hlt x hx y (by simp)) ⟨hNY y (by simp), hNX⟩).mono ?_
        rintro e w' ⟨he, hg, Z, p, s, h⟩
        exact ⟨he, hg, Z, p.trans (List.perm_append_comm (l₁ := [y])), s, h⟩
      · exact sym_gen ho (sym_all ho n) P X Y R a m b L cap w hn hc hh ha hm hb (by omega) (by omega) hL hsz hX hY hlt hNX hNY
/-- Insertion at one part of the places. -/
theorem ins_part {fk : Nat} {caps : Array Value} {cf : Nat → Nat → Int} {N g : Nat} {w : World} (ho : OrdP cf) (hc : CmpOk fk caps cf N g w) (cap a b L : Nat) (P X R : List Nat) (hh : HoldI w g (P ++ (X ++ R))) (hX : X.Pairwise (· < ·))
    (ha : a = P.length) (hb : b = P.length + X.length) (hL : L = P.length + X.length + R.length) (hsz : L < 4611686018427387904) (hx : ∀ x ∈ P ++ (X ++ R), x < N) :
    Calls Try.prog 114 #[.slice (some ⟨g, 0, none⟩) L cap, .int .i64 a, .int .i64 b, .func (.func fk) #[] caps] w fun e w' => e = .returned (.tuple #[]) ∧ w.grownBy w' (some g) ∧ ∃ Z, Z.Perm X ∧ Z.Pairwise (ltP cf) ∧ HoldI w' g (P ++ (Z ++ R)) := by
  obtain ⟨Z, p, s, e⟩ := insS_ok ho P X R hX
  have hl : L = (P ++ (X ++ R)).length := by simp; omega
  subst hl
  subst ha
  subst hb
  refine (ins_calls' hc cap P.length (P.length + X.length) _ hh (by omega) (by simp) hsz hx).mono ?_
  rintro e1 w' ⟨he, hg, h⟩
  rw [e] at h
  exact ⟨he, hg, Z, p, s, h⟩
/-- The places 0 to n in two parts. -/
theorem range_parts (n : Nat) (h : 20 ≤ n) : ∃ A B : List Nat, List.range n = A ++ B ∧ A.length = 20 ∧ B.length = n - 20 ∧ A.Pairwise (· < ·) ∧ B.Pairwise (· < ·) ∧ (∀ x ∈ A, ∀ y ∈ B, x < y) ∧ (∀ x ∈ A, x < n) ∧ (∀ x ∈ B, x < n) := by
  have hr : (List.range n).Pairwise (· < ·) := List.pairwise_lt_range
  have e := (List.take_append_drop 20 (List.range n)).symm
  have hp := hr
  rw [e] at hp
  obtain ⟨p1, p2, p3⟩ := List.pairwise_append.1 hp
  exact ⟨_, _, e, by simp; omega, by simp, p1, p2, p3, fun x hx => by have := List.mem_of_mem_take hx; simpa using this, fun x hx => by have := List.mem_of_mem_drop hx; simpa using this⟩
set_option maxHeartbeats 4000000 in
set_option maxRecDepth 100000 in
theorem stable_mid {fk : Nat} {caps : Array Value} {cf : Nat → Nat → Int} {g n : Nat} {w : World} (ho : OrdP cf) (hc : CmpOk fk caps cf n g w) (cap : Nat)
    (hh : HoldI w g (List.range n)) (h20 : 20 < n) (h40 : n < 40) :
    Calls Try.prog 113 #[.slice (some ⟨g, 0, none⟩) n cap, .int .i64 n, .func (.func fk) #[] caps] w fun e w' => e = .returned (.tuple #[]) ∧ w.grownBy w' (some g) ∧ ∃ Z, Z.Perm (List.range n) ∧ Z.Pairwise (ltP cf) ∧ HoldI w' g Z := by
  have hn40 : 20 ≤ n ∧ n ≤ 40 := by omega
  obtain ⟨A, B, eAB, lA, lB, pA, pB, hAB, nA, nB⟩ := range_parts n (by omega)
  rw [eAB] at hh ⊢
  have HC := Aside0.mk hc
  have HNN := Aside0.mk (⟨hn40, lA, lB⟩ : (20 ≤ n ∧ n ≤ 40) ∧ A.length = 20 ∧ B.length = n - 20)
  have HPP := Aside0.mk (⟨pA, pB, hAB, nA, nB⟩ : A.Pairwise (· < ·) ∧ B.Pairwise (· < ·) ∧ (∀ x ∈ A, ∀ y ∈ B, x < y) ∧ (∀ x ∈ A, x < n) ∧ (∀ x ∈ B, x < n))
  have HI := Aside0.mk (ins_part ho hc cap 0 20 n [] A B (by simpa using hh) pA rfl (by simp; omega) (by simp; omega) (by omega) (fun x hx => by rcases List.mem_append.1 (by simpa using hx) with h | h; exact nA x h; exact nB x h))
  have HO := Aside0.mk ho
  have c0 : decide ((20 : Int) ≤ (n : Int)) = true := decide_eq_true (by omega)
  have d0 : (20 : Int) ≤ (n : Int) := by omega
  have c1 : decide ((40 : Int) ≤ (n : Int)) = false := decide_eq_false (by omega)
  have d1 : ¬ (40 : Int) ≤ (n : Int) := by omega
  have c2 : decide ((20 : Int) < (n : Int)) = true := decide_eq_true (by omega)
  have d2 : (20 : Int) < (n : Int) := by omega
  have c3 : decide ((40 : Int) < (n : Int)) = false := decide_eq_false (by omega)
  have d3 : ¬ (40 : Int) < (n : Int) := by omega
  have ZN : 20 < n ∧ n < 40 := by omega
  have HZN := Aside0.mk ZN
  clear hc hh h20 h40 pA pB hAB nA nB eAB lA lB ho hn40 ZN
  go_enter Try.func113, Try.ntmps113
  go_wp2
  refine wp_loop_rounds 3 ?_
  rw [rounds_succ]
  go_wp2_with fail
  refine HI.out.mono ?_
  rintro e w1 ⟨rfl, hg, Z1, p1, s1, hh⟩
  have HG := Aside0.mk hg
  have HH := Aside0.mk (show HoldI w1 g (Z1 ++ B) by simpa using hh)
  have HZ1 := Aside0.mk (⟨p1, s1, by have := p1.length_eq; have := HNN.out; omega⟩ : Z1.Perm A ∧ Z1.Pairwise (ltP cf) ∧ Z1.length = 20)
  have HI2 := Aside0.mk (ins_part HO.out (HC.out.later hg) cap 20 n n Z1 B [] (by simpa using HH.out) HPP.out.2.1 (by have := HZ1.out; omega) (by have := HZ1.out; have := HNN.out; have := HZN.out; omega) (by have := HZ1.out; have := HNN.out; simp; omega) (by have := HNN.out; omega) (fun x hx => by rcases List.mem_append.1 (by simpa using hx) with h | h; exact HPP.out.2.2.2.1 x (p1.mem_iff.1 h); exact HPP.out.2.2.2.2 x h))
  clear hg hh p1 s1 HI
  go_wp2
  rw [rounds_succ]
  go_wp2_with fail
  refine HI2.out.mono ?_
  rintro e w2 ⟨rfl, hg, Z2, p2, s2, hh⟩
  have HG2 := Aside0.mk (gr_trans HG.out hg)
  have HH2 := Aside0.mk (show HoldI w2 g (Z1 ++ Z2) by simpa using hh)
  have HZ2 := Aside0.mk (⟨p2, s2, by have := p2.length_eq; have := HNN.out; omega⟩ : Z2.Perm B ∧ Z2.Pairwise (ltP cf) ∧ Z2.length = n - 20)
  clear hg hh p2 s2 HI2 HG HH
  have HS := Aside0.mk (sym_all HO.out n [] Z1 Z2 [] 0 20 n n cap w2 (by have := HZ1.out; have := HZ2.out; have := HNN.out; omega) (HC.out.later HG2.out) (by simpa using HH2.out) rfl (by have := HZ1.out; omega) (by have := HZ2.out; have := HNN.out; have := HZN.out; omega) (by have := HZ1.out; omega) (by have := HZ2.out; have := HZN.out; omega) (by have := HZ1.out; have := HZ2.out; have := HNN.out; simp; omega) (by have := HNN.out; omega) HZ1.out.2.1 HZ2.out.2.1 (fun x hx y hy => HPP.out.2.2.1 x (HZ1.out.1.mem_iff.1 hx) y (HZ2.out.1.mem_iff.1 hy)) (fun x hx => HPP.out.2.2.2.1 x (HZ1.out.1.mem_iff.1 hx)) (fun x hx => HPP.out.2.2.2.2 x (HZ2.out.1.mem_iff.1 hx)))
  go_wp2
  refine wp_loop_rounds 2 ?_
  rw [rounds_succ]
  go_wp2
  refine wp_loop_rounds 2 ?_
  rw [rounds_succ]
  go_wp2_with fail
  refine HS.out.mono ?_
  rintro e w4 ⟨rfl, hg, Z, p, s, hh⟩
  have HG4 := Aside0.mk (gr_trans HG2.out hg)
  have HH4 := Aside0.mk (show HoldI w4 g Z by simpa using hh)
  have HE := Aside0.mk (⟨p.trans (HZ1.out.1.append HZ2.out.1), s⟩ : Z.Perm (A ++ B) ∧ Z.Pairwise (ltP cf))
  clear hg hh p s HS
  go_wp2
  rw [rounds_succ]
  go_wp2
  go_end0
  exact ⟨rfl, HG4.out, Z, HE.out.1, HE.out.2, HH4.out⟩
set_option maxHeartbeats 4000000 in
set_option maxRecDepth 100000 in
theorem stable_20 {fk : Nat} {caps : Array Value} {cf : Nat → Nat → Int} {g n : Nat} {w : World} (ho : OrdP cf) (hc : CmpOk fk caps cf n g w) (cap : Nat)
    (hh : HoldI w g (List.range n)) (h20 : n = 20) :
    Calls Try.prog 113 #[.slice (some ⟨g, 0, none⟩) n cap, .int .i64 n, .func (.func fk) #[] caps] w fun e w' => e = .returned (.tuple #[]) ∧ w.grownBy w' (some g) ∧ ∃ Z, Z.Perm (List.range n) ∧ Z.Pairwise (ltP cf) ∧ HoldI w' g Z := by
  have hn40 : 20 ≤ n ∧ n ≤ 40 := by omega
  obtain ⟨A, B, eAB, lA, lB, pA, pB, hAB, nA, nB⟩ := range_parts n (by omega)
  rw [eAB] at hh ⊢
  have HC := Aside0.mk hc
  have HNN := Aside0.mk (⟨hn40, lA, lB⟩ : (20 ≤ n ∧ n ≤ 40) ∧ A.length = 20 ∧ B.length = n - 20)
  have HPP := Aside0.mk (⟨pA, pB, hAB, nA, nB⟩ : A.Pairwise (· < ·) ∧ B.Pairwise (· < ·) ∧ (∀ x ∈ A, ∀ y ∈ B, x < y) ∧ (∀ x ∈ A, x < n) ∧ (∀ x ∈ B, x < n))
  have HI := Aside0.mk (ins_part ho hc cap 0 20 n [] A B (by simpa using hh) pA rfl (by simp; omega) (by simp; omega) (by omega) (fun x hx => by rcases List.mem_append.1 (by simpa using hx) with h | h; exact nA x h; exact nB x h))
  have HO := Aside0.mk ho
  have c0 : decide ((20 : Int) ≤ (n : Int)) = true := decide_eq_true (by omega)
  have d0 : (20 : Int) ≤ (n : Int) := by omega
  have c1 : decide ((40 : Int) ≤ (n : Int)) = false := decide_eq_false (by omega)
  have d1 : ¬ (40 : Int) ≤ (n : Int) := by omega
  have c2 : decide ((20 : Int) < (n : Int)) = false := decide_eq_false (by omega)
  have d2 : ¬ (20 : Int) < (n : Int) := by omega
  have ZN : n = 20 := by omega
  have HZN := Aside0.mk ZN
  clear hc hh h20 pA pB hAB nA nB eAB lA lB ho hn40 ZN
  go_enter Try.func113, Try.ntmps113
  go_wp2
  refine wp_loop_rounds 3 ?_
  rw [rounds_succ]
  go_wp2_with fail
  refine HI.out.mono ?_
  rintro e w1 ⟨rfl, hg, Z1, p1, s1, hh⟩
  have HG := Aside0.mk hg
  have HH := Aside0.mk (show HoldI w1 g (Z1 ++ B) by simpa using hh)
  have HZ1 := Aside0.mk (⟨p1, s1, by have := p1.length_eq; have := HNN.out; omega⟩ : Z1.Perm A ∧ Z1.Pairwise (ltP cf) ∧ Z1.length = 20)
  have HI2 := Aside0.mk (ins_part HO.out (HC.out.later hg) cap 20 n n Z1 B [] (by simpa using HH.out) HPP.out.2.1 (by have := HZ1.out; omega) (by have := HZ1.out; have := HNN.out; have := HZN.out; omega) (by have := HZ1.out; have := HNN.out; simp; omega) (by have := HNN.out; omega) (fun x hx => by rcases List.mem_append.1 (by simpa using hx) with h | h; exact HPP.out.2.2.2.1 x (p1.mem_iff.1 h); exact HPP.out.2.2.2.2 x h))
  clear hg hh p1 s1 HI
  go_wp2
  rw [rounds_succ]
  go_wp2_with fail
  refine HI2.out.mono ?_
  rintro e w2 ⟨rfl, hg, Z2, p2, s2, hh⟩
  have HG2 := Aside0.mk (gr_trans HG.out hg)
  have HH2 := Aside0.mk (show HoldI w2 g (Z1 ++ Z2) by simpa using hh)
  have HZ2 := Aside0.mk (⟨p2, s2, by have := p2.length_eq; have := HNN.out; omega⟩ : Z2.Perm B ∧ Z2.Pairwise (ltP cf) ∧ Z2.length = n - 20)
  clear hg hh p2 s2 HI2 HG HH
  have HB := Aside0.mk (show Z2 = [] ∧ B = [] from ⟨List.eq_nil_of_length_eq_zero (by have := HZ2.out; have := HZN.out; omega), List.eq_nil_of_length_eq_zero (by have := HNN.out; have := HZN.out; omega)⟩)
  have HE := Aside0.mk (show Z1.Perm (A ++ B) ∧ HoldI w2 g Z1 by rw [HB.out.2, List.append_nil]; refine ⟨HZ1.out.1, ?_⟩; have h := HH2.out; rwa [HB.out.1, List.append_nil] at h)
  go_wp2
  refine wp_loop_rounds 1 ?_
  rw [rounds_succ]
  go_wp2
  go_end0
  exact ⟨rfl, HG2.out, Z1, HE.out.1, HZ1.out.2.1, HE.out.2⟩
set_option maxHeartbeats 4000000 in
set_option maxRecDepth 100000 in
theorem stable_40 {fk : Nat} {caps : Array Value} {cf : Nat → Nat → Int} {g n : Nat} {w : World} (ho : OrdP cf) (hc : CmpOk fk caps cf n g w) (cap : Nat)
    (hh : HoldI w g (List.range n)) (h40 : n = 40) :
    Calls Try.prog 113 #[.slice (some ⟨g, 0, none⟩) n cap, .int .i64 n, .func (.func fk) #[] caps] w fun e w' => e = .returned (.tuple #[]) ∧ w.grownBy w' (some g) ∧ ∃ Z, Z.Perm (List.range n) ∧ Z.Pairwise (ltP cf) ∧ HoldI w' g Z := by
  have hn40 : 20 ≤ n ∧ n ≤ 40 := by omega
  obtain ⟨A, B, eAB, lA, lB, pA, pB, hAB, nA, nB⟩ := range_parts n (by omega)
  rw [eAB] at hh ⊢
  have HC := Aside0.mk hc
  have HNN := Aside0.mk (⟨hn40, lA, lB⟩ : (20 ≤ n ∧ n ≤ 40) ∧ A.length = 20 ∧ B.length = n - 20)
  have HPP := Aside0.mk (⟨pA, pB, hAB, nA, nB⟩ : A.Pairwise (· < ·) ∧ B.Pairwise (· < ·) ∧ (∀ x ∈ A, ∀ y ∈ B, x < y) ∧ (∀ x ∈ A, x < n) ∧ (∀ x ∈ B, x < n))
  have HI := Aside0.mk (ins_part ho hc cap 0 20 n [] A B (by simpa using hh) pA rfl (by simp; omega) (by simp; omega) (by omega) (fun x hx => by rcases List.mem_append.1 (by simpa using hx) with h | h; exact nA x h; exact nB x h))
  have HO := Aside0.mk ho
  have c0 : decide ((20 : Int) ≤ (n : Int)) = true := decide_eq_true (by omega)
  have d0 : (20 : Int) ≤ (n : Int) := by omega
  have c1 : decide ((40 : Int) ≤ (n : Int)) = true := decide_eq_true (by omega)
  have d1 : (40 : Int) ≤ (n : Int) := by omega
  have c2 : decide ((60 : Int) ≤ (n : Int)) = false := decide_eq_false (by omega)
  have d2 : ¬ (60 : Int) ≤ (n : Int) := by omega
  have c3 : decide ((80 : Int) ≤ (n : Int)) = false := decide_eq_false (by omega)
  have d3 : ¬ (80 : Int) ≤ (n : Int) := by omega
  have c4 : decide ((20 : Int) < (n : Int)) = true := decide_eq_true (by omega)
  have d4 : (20 : Int) < (n : Int) := by omega
  have c5 : decide ((40 : Int) < (n : Int)) = false := decide_eq_false (by omega)
  have d5 : ¬ (40 : Int) < (n : Int) := by omega
  have c6 : decide ((60 : Int) < (n : Int)) = false := decide_eq_false (by omega)
  have d6 : ¬ (60 : Int) < (n : Int) := by omega
  have ZN : n = 40 := by omega
  have HZN := Aside0.mk ZN
  clear hc hh h40 pA pB hAB nA nB eAB lA lB ho hn40 ZN
  go_enter Try.func113, Try.ntmps113
  go_wp2
  refine wp_loop_rounds 3 ?_
  rw [rounds_succ]
  go_wp2_with fail
  refine HI.out.mono ?_
  rintro e w1 ⟨rfl, hg, Z1, p1, s1, hh⟩
  have HG := Aside0.mk hg
  have HH := Aside0.mk (show HoldI w1 g (Z1 ++ B) by simpa using hh)
  have HZ1 := Aside0.mk (⟨p1, s1, by have := p1.length_eq; have := HNN.out; omega⟩ : Z1.Perm A ∧ Z1.Pairwise (ltP cf) ∧ Z1.length = 20)
  have HI2 := Aside0.mk (ins_part HO.out (HC.out.later hg) cap 20 40 n Z1 B [] (by simpa using HH.out) HPP.out.2.1 (by have := HZ1.out; omega) (by have := HZ1.out; have := HNN.out; have := HZN.out; omega) (by have := HZ1.out; have := HNN.out; simp; omega) (by have := HNN.out; omega) (fun x hx => by rcases List.mem_append.1 (by simpa using hx) with h | h; exact HPP.out.2.2.2.1 x (p1.mem_iff.1 h); exact HPP.out.2.2.2.2 x h))
  clear hg hh p1 s1 HI
  go_wp2
  rw [rounds_succ]
  go_wp2_with fail
  refine HI2.out.mono ?_
  rintro e w2 ⟨rfl, hg, Z2, p2, s2, hh⟩
  have HG2 := Aside0.mk (gr_trans HG.out hg)
  have HH2 := Aside0.mk (show HoldI w2 g (Z1 ++ Z2) by simpa using hh)
  have HZ2 := Aside0.mk (⟨p2, s2, by have := p2.length_eq; have := HNN.out; omega⟩ : Z2.Perm B ∧ Z2.Pairwise (ltP cf) ∧ Z2.length = n - 20)
  clear hg hh p2 s2 HI2 HG HH
  go_wp2
  rw [rounds_succ]
  have HI3 := Aside0.mk (ins_part HO.out (HC.out.later HG2.out) cap 40 n n (Z1 ++ Z2) [] [] (by simpa using HH2.out) List.Pairwise.nil (by have := HZ1.out; have := HZ2.out; have := HNN.out; have := HZN.out; simp; omega) (by have := HZ1.out; have := HZ2.out; have := HNN.out; have := HZN.out; simp; omega) (by have := HZ1.out; have := HZ2.out; have := HNN.out; simp; omega) (by have := HNN.out; omega) (fun x hx => by rcases List.mem_append.1 (by simpa using hx) with h | h; exact HPP.out.2.2.2.1 x (HZ1.out.1.mem_iff.1 h); exact HPP.out.2.2.2.2 x (HZ2.out.1.mem_iff.1 h)))
  go_wp2_with fail
  refine HI3.out.mono ?_
  rintro e w3 ⟨rfl, hg, Z3, p3, s3, hh⟩
  have HG3 := Aside0.mk (gr_trans HG2.out hg)
  have HH3 := Aside0.mk (show HoldI w3 g (Z1 ++ Z2) by
    have e0 : Z3 = [] := List.perm_nil.1 p3
    rw [e0] at hh
    simpa using hh)
  clear hg hh p3 s3 HI3 HG2 HH2
  have HS := Aside0.mk (sym_all HO.out n [] Z1 Z2 [] 0 20 40 n cap w3 (by have := HZ1.out; have := HZ2.out; have := HNN.out; omega) (HC.out.later HG3.out) (by simpa using HH3.out) rfl (by have := HZ1.out; omega) (by have := HZ2.out; have := HNN.out; have := HZN.out; omega) (by have := HZ1.out; omega) (by have := HZ2.out; have := HZN.out; omega) (by have := HZ1.out; have := HZ2.out; have := HNN.out; simp; omega) (by have := HNN.out; omega) HZ1.out.2.1 HZ2.out.2.1 (fun x hx y hy => HPP.out.2.2.1 x (HZ1.out.1.mem_iff.1 hx) y (HZ2.out.1.mem_iff.1 hy)) (fun x hx => HPP.out.2.2.2.1 x (HZ1.out.1.mem_iff.1 hx)) (fun x hx => HPP.out.2.2.2.2 x (HZ2.out.1.mem_iff.1 hx)))
  go_wp2
  refine wp_loop_rounds 2 ?_
  rw [rounds_succ]
  go_wp2
  refine wp_loop_rounds 2 ?_
  rw [rounds_succ]
  go_wp2_with fail
  refine HS.out.mono ?_
  rintro e w4 ⟨rfl, hg, Z, p, s, hh⟩
  have HG4 := Aside0.mk (gr_trans HG3.out hg)
  have HH4 := Aside0.mk (show HoldI w4 g Z by simpa using hh)
  have HE := Aside0.mk (⟨p.trans (HZ1.out.1.append HZ2.out.1), s⟩ : Z.Perm (A ++ B) ∧ Z.Pairwise (ltP cf))
  clear hg hh p s HS
  go_wp2
  rw [rounds_succ]
  go_wp2
  rw [rounds_succ]
  go_wp2
  go_end0
  exact ⟨rfl, HG4.out, Z, HE.out.1, HE.out.2, HH4.out⟩
set_option maxHeartbeats 4000000 in
set_option maxRecDepth 100000 in
/-- SortStableFunc of at most forty places, from 0 on. -/
theorem sortfunc_all {fk : Nat} {caps : Array Value} {cf : Nat → Nat → Int} {g n : Nat} {w : World} (ho : OrdP cf) (hc : CmpOk fk caps cf n g w) (cap : Nat)
    (hh : HoldI w g (List.range n)) (hn : n ≤ 40) :
    Calls Try.prog 94 #[.slice (some ⟨g, 0, none⟩) n cap, .func (.func fk) #[] caps] w fun e w' => e = .returned (.tuple #[]) ∧ w.grownBy w' (some g) ∧ ∃ Z, Z.Perm (List.range n) ∧ Z.Pairwise (ltP cf) ∧ HoldI w' g Z := by
  have HI := Aside0.mk (show Calls Try.prog 113 #[.slice (some ⟨g, 0, none⟩) n cap, .int .i64 n, .func (.func fk) #[] caps] w fun e w' => e = .returned (.tuple #[]) ∧ w.grownBy w' (some g) ∧ ∃ Z, Z.Perm (List.range n) ∧ Z.Pairwise (ltP cf) ∧ HoldI w' g Z by
    rcases Nat.lt_or_ge n 20 with h | h
    · have := stable_small hc cap (List.range n) hh (by simpa using h) (fun x hx => by simpa using hx)
      rw [List.length_range] at this
      refine this.mono ?_
      rintro e w' ⟨he, hg, hh'⟩
      exact ⟨he, hg, _, (insS_all ho n).1, (insS_all ho n).2, hh'⟩
    · rcases Nat.lt_or_ge 20 n with h1 | h1
      · rcases Nat.lt_or_ge n 40 with h2 | h2
        · exact stable_mid ho hc cap hh h1 h2
        · exact stable_40 ho hc cap hh (by omega)
      · exact stable_20 ho hc cap hh (by omega))
  clear hc hh hn
  go_enter Try.func94, Try.ntmps94
  go_wp2_with fail
  refine HI.out.mono ?_
  rintro e w1 ⟨rfl, hg, hh⟩
  have HG := Aside0.mk hg
  have HH := Aside0.mk hh
  clear hg hh
  go_wp2
  go_end0
  exact ⟨rfl, HG.out, HH.out⟩
end Go.Proofs.Ythghflgmeepnlaa.Pa
end
section
namespace Go.Proofs.Ythghflgmeepnlaa.Pa
open Go.RowKit Go.Proofs.YthghflgmeepnlaaW.PrintWords Go.Proofs.YthghflgmeepnlaaW.PrintLast Go.Proofs.YthghflgmeepnlaaW.PrintMore
set_option linter.unusedVariables false
set_option linter.unusedSimpArgs false
def cmpS (a b : ByteArray) : Int := if Op.bytesLess a.toList b.toList = true then -1 else if a.toList = b.toList then 0 else 1
def cmp_Compare_string.f (a0 a1 : ByteArray) : Option Int := some (cmpS a0 a1)
theorem less_irrefl : ∀ l : List UInt8, Op.bytesLess l l = false := by
  intro l
  induction l with
  | nil => rfl
  | cons a l ih => simp [Op.bytesLess, ih]
set_option maxRecDepth 100000 in
set_option maxHeartbeats 1000000 in
theorem cmp_Compare_string.calls (a0 a1 : ByteArray) (r : Int) (w : World) (h : cmp_Compare_string.f a0 a1 = some r) :
    Calls Try.prog 87 #[.string a0, .string a1] w fun e w' => e = .returned (.int .i64 r) ∧ Drawn0 w w' := by
  obtain rfl := Option.some.inj h
  clear h
  unfold cmpS
  by_cases h1 : Op.bytesLess a0.toList a1.toList = true
  · rw [if_pos h1]
    go_enter Try.func87, Try.ntmps87
    go_wp2
    go_ret
    exact ⟨rfl, Drawn0.refl _⟩
  · have h1 : Op.bytesLess a0.toList a1.toList = false := by simpa using h1
    rw [if_neg (by simp [h1])]
    by_cases h2 : a0.toList = a1.toList
    · rw [if_pos h2]
      have h3 : (a0.toList == a1.toList) = true := by simpa using h2
      clear h2
      go_enter Try.func87, Try.ntmps87
      go_wp2
      go_ret
      exact ⟨rfl, Drawn0.refl _⟩
    · rw [if_neg h2]
      have h3 : (a0.toList == a1.toList) = false := by simpa using h2
      clear h2
      go_enter Try.func87, Try.ntmps87
      go_wp2
      go_ret
      exact ⟨rfl, Drawn0.refl _⟩
end Go.Proofs.Ythghflgmeepnlaa.Pa
end
section
namespace Go.Proofs.Ythghflgmeepnlaa.Pa
open Go.RowKit Go.Proofs.YthghflgmeepnlaaW.PrintWords Go.Proofs.YthghflgmeepnlaaW.PrintLast Go.Proofs.YthghflgmeepnlaaW.PrintMore
attribute [local go_sem] max2_int max_two
set_option linter.unusedVariables false
set_option linter.unusedSimpArgs false
def cmp_isNaN_int.f (a0 : Int) : Option (Bool) := some (a0 != a0)
set_option maxHeartbeats 8000000 in
set_option maxRecDepth 100000 in
theorem cmp_isNaN_int.calls (a0 : Int) (r : Bool) (w : World) (h : cmp_isNaN_int.f a0 = some r) :
    Calls Try.prog 107 #[.int .i64 a0] w fun e w' => e = .returned (.bool r) ∧ Drawn0 w w' := by
  have H : (some (a0 != a0)) = some r := h
  clear h
  obtain rfl := Option.some.inj H
  go_enter Try.func107, Try.ntmps107
  go_wp2
  go_ret
  exact ⟨by first | rfl | (simp; done) | (simp [*]; done), by repeat (first | exact Drawn0.refl _ | apply Drawn0.step)⟩
def cmp_Compare_int.f (a0 : Int) (a1 : Int) : Option (Int) := (cmp_isNaN_int.f a0).bind fun t395 => ((cmp_isNaN_int.f a1).bind fun t396 => (if t395 = true then (if t396 = true then (some 0) else (some (-1))) else (if t396 = true then (some 1) else (if a0 < a1 then (some (-1)) else (if a0 > a1 then (some 1) else (some 0))))))
set_option maxHeartbeats 8000000 in
set_option maxRecDepth 100000 in
theorem cmp_Compare_int.calls (a0 : Int) (a1 : Int) (r : Int) (w : World) (h : cmp_Compare_int.f a0 a1 = some r) :
    Calls Try.prog 83 #[.int .i64 a0, .int .i64 a1] w fun e w' => e = .returned (.int .i64 r) ∧ Drawn0 w w' := by
  have H : ((cmp_isNaN_int.f a0).bind fun t395 => ((cmp_isNaN_int.f a1).bind fun t396 => (if t395 = true then (if t396 = true then (some 0) else (some (-1))) else (if t396 = true then (some 1) else (if a0 < a1 then (some (-1)) else (if a0 > a1 then (some 1) else (some 0))))))) = some r := h
  clear h
  replace H := Option.bind_eq_some_iff.mp H
  obtain ⟨t395, A30, H⟩ := H
  replace H : ((cmp_isNaN_int.f a1).bind fun t396 => (if t395 = true then (if t396 = true then (some 0) else (some (-1))) else (if t396 = true then (some 1) else (if a0 < a1 then (some (-1)) else (if a0 > a1 then (some 1) else (some 0)))))) = some r := H
  have A3 := Aside0.mk A30
  clear A30
  replace H := Option.bind_eq_some_iff.mp H
  obtain ⟨t396, A40, H⟩ := H
  replace H : (if t395 = true then (if t396 = true then (some 0) else (some (-1))) else (if t396 = true then (some 1) else (if a0 < a1 then (some (-1)) else (if a0 > a1 then (some 1) else (some 0))))) = some r := H
  have A4 := Aside0.mk A40
  clear A40
  by_cases c5 : t395 = true
  · subst c5
    have H1 : (if t396 = true then (some 0) else (some (-1))) = some r := by rw [if_pos rfl] at H; exact H
    clear H
    have H := H1
    clear H1
    by_cases c6 : t396 = true
    · subst c6
      have H1 : (some 0) = some r := by rw [if_pos rfl] at H; exact H
      clear H
      have H := H1
      clear H1
      obtain rfl := Option.some.inj H
      go_enter Try.func83, Try.ntmps83
      go_wp2_with (first | ((with_reducible refine gate_callee (f := 107) rfl ?_); refine goesL_ (some 8) rfl rfl Try.func107 (by kernel_rfl) rfl #[.int .i64 a0] rfl (by (try simp only [List.map_toArray, List.map_cons, List.map_nil]); first | done | rfl | (simp only [List.length_drop, List.length_take]; rfl)) ?_; (with_reducible refine (cmp_isNaN_int.calls a0 true _ A3.out).mono ?_); rintro e w' ⟨rfl, ⟨nd, rfl⟩⟩; refine ⟨_, rfl, ?_⟩) | ((with_reducible refine gate_callee (f := 107) rfl ?_); refine goesL_ (some 10) rfl rfl Try.func107 (by kernel_rfl) rfl #[.int .i64 a1] rfl (by (try simp only [List.map_toArray, List.map_cons, List.map_nil]); first | done | rfl | (simp only [List.length_drop, List.length_take]; rfl)) ?_; (with_reducible refine (cmp_isNaN_int.calls a1 true _ A4.out).mono ?_); rintro e w' ⟨rfl, ⟨nd, rfl⟩⟩; refine ⟨_, rfl, ?_⟩))
      go_ret
      exact ⟨by first | rfl | (simp; done) | (simp [*]; done), by repeat (first | exact Drawn0.refl _ | apply Drawn0.step)⟩
    · replace c6 := Bool.eq_false_iff.mpr c6
      subst c6
      have H1 : (some (-1)) = some r := by rw [if_neg (show ¬ (false = true) by decide)] at H; exact H
      clear H
      have H := H1
      clear H1
      obtain rfl := Option.some.inj H
      go_enter Try.func83, Try.ntmps83
      go_wp2_with (first | ((with_reducible refine gate_callee (f := 107) rfl ?_); refine goesL_ (some 8) rfl rfl Try.func107 (by kernel_rfl) rfl #[.int .i64 a0] rfl (by (try simp only [List.map_toArray, List.map_cons, List.map_nil]); first | done | rfl | (simp only [List.length_drop, List.length_take]; rfl)) ?_; (with_reducible refine (cmp_isNaN_int.calls a0 true _ A3.out).mono ?_); rintro e w' ⟨rfl, ⟨nd, rfl⟩⟩; refine ⟨_, rfl, ?_⟩) | ((with_reducible refine gate_callee (f := 107) rfl ?_); refine goesL_ (some 10) rfl rfl Try.func107 (by kernel_rfl) rfl #[.int .i64 a1] rfl (by (try simp only [List.map_toArray, List.map_cons, List.map_nil]); first | done | rfl | (simp only [List.length_drop, List.length_take]; rfl)) ?_; (with_reducible refine (cmp_isNaN_int.calls a1 false _ A4.out).mono ?_); rintro e w' ⟨rfl, ⟨nd, rfl⟩⟩; refine ⟨_, rfl, ?_⟩))
      go_ret
      exact ⟨by first | rfl | (simp; done) | (simp [*]; done), by repeat (first | exact Drawn0.refl _ | apply Drawn0.step)⟩
  · replace c5 := Bool.eq_false_iff.mpr c5
    subst c5
    have H1 : (if t396 = true then (some 1) else (if a0 < a1 then (some (-1)) else (if a0 > a1 then (some 1) else (some 0)))) = some r := by rw [if_neg (show ¬ (false = true) by decide)] at H; exact H
    clear H
    have H := H1
    clear H1
    by_cases c7 : t396 = true
    · subst c7
      have H1 : (some 1) = some r := by rw [if_pos rfl] at H; exact H
      clear H
      have H := H1
      clear H1
      obtain rfl := Option.some.inj H
      go_enter Try.func83, Try.ntmps83
      go_wp2_with (first | ((with_reducible refine gate_callee (f := 107) rfl ?_); refine goesL_ (some 8) rfl rfl Try.func107 (by kernel_rfl) rfl #[.int .i64 a0] rfl (by (try simp only [List.map_toArray, List.map_cons, List.map_nil]); first | done | rfl | (simp only [List.length_drop, List.length_take]; rfl)) ?_; (with_reducible refine (cmp_isNaN_int.calls a0 false _ A3.out).mono ?_); rintro e w' ⟨rfl, ⟨nd, rfl⟩⟩; refine ⟨_, rfl, ?_⟩) | ((with_reducible refine gate_callee (f := 107) rfl ?_); refine goesL_ (some 10) rfl rfl Try.func107 (by kernel_rfl) rfl #[.int .i64 a1] rfl (by (try simp only [List.map_toArray, List.map_cons, List.map_nil]); first | done | rfl | (simp only [List.length_drop, List.length_take]; rfl)) ?_; (with_reducible refine (cmp_isNaN_int.calls a1 true _ A4.out).mono ?_); rintro e w' ⟨rfl, ⟨nd, rfl⟩⟩; refine ⟨_, rfl, ?_⟩))
      go_ret
      exact ⟨by first | rfl | (simp; done) | (simp [*]; done), by repeat (first | exact Drawn0.refl _ | apply Drawn0.step)⟩
    · replace c7 := Bool.eq_false_iff.mpr c7
      subst c7
      have H1 : (if a0 < a1 then (some (-1)) else (if a0 > a1 then (some 1) else (some 0))) = some r := by rw [if_neg (show ¬ (false = true) by decide)] at H; exact H
      clear H
      have H := H1
      clear H1
      by_cases c8 : a0 < a1
      · rw [if_pos c8] at H
        have c8b0 : decide (a0 < a1) = true := decide_eq_true c8
        clear c8
        obtain rfl := Option.some.inj H
        go_enter Try.func83, Try.ntmps83
        go_wp2_with (first | ((with_reducible refine gate_callee (f := 107) rfl ?_); refine goesL_ (some 8) rfl rfl Try.func107 (by kernel_rfl) rfl #[.int .i64 a0] rfl (by (try simp only [List.map_toArray, List.map_cons, List.map_nil]); first | done | rfl | (simp only [List.length_drop, List.length_take]; rfl)) ?_; (with_reducible refine (cmp_isNaN_int.calls a0 false _ A3.out).mono ?_); rintro e w' ⟨rfl, ⟨nd, rfl⟩⟩; refine ⟨_, rfl, ?_⟩) | ((with_reducible refine gate_callee (f := 107) rfl ?_); refine goesL_ (some 10) rfl rfl Try.func107 (by kernel_rfl) rfl #[.int .i64 a1] rfl (by (try simp only [List.map_toArray, List.map_cons, List.map_nil]); first | done | rfl | (simp only [List.length_drop, List.length_take]; rfl)) ?_; (with_reducible refine (cmp_isNaN_int.calls a1 false _ A4.out).mono ?_); rintro e w' ⟨rfl, ⟨nd, rfl⟩⟩; refine ⟨_, rfl, ?_⟩))
        go_ret
        exact ⟨by first | rfl | (simp; done) | (simp [*]; done), by repeat (first | exact Drawn0.refl _ | apply Drawn0.step)⟩
      · rw [if_neg c8] at H
        have c8b0 : decide (a0 < a1) = false := decide_eq_false c8
        clear c8
        by_cases c9 : a0 > a1
        · rw [if_pos c9] at H
          have c9b0 : decide (a1 < a0) = true := decide_eq_true c9
          clear c9
          obtain rfl := Option.some.inj H
          go_enter Try.func83, Try.ntmps83
          go_wp2_with (first | ((with_reducible refine gate_callee (f := 107) rfl ?_); refine goesL_ (some 8) rfl rfl Try.func107 (by kernel_rfl) rfl #[.int .i64 a0] rfl (by (try simp only [List.map_toArray, List.map_cons, List.map_nil]); first | done | rfl | (simp only [List.length_drop, List.length_take]; rfl)) ?_; (with_reducible refine (cmp_isNaN_int.calls a0 false _ A3.out).mono ?_); rintro e w' ⟨rfl, ⟨nd, rfl⟩⟩; refine ⟨_, rfl, ?_⟩) | ((with_reducible refine gate_callee (f := 107) rfl ?_); refine goesL_ (some 10) rfl rfl Try.func107 (by kernel_rfl) rfl #[.int .i64 a1] rfl (by (try simp only [List.map_toArray, List.map_cons, List.map_nil]); first | done | rfl | (simp only [List.length_drop, List.length_take]; rfl)) ?_; (with_reducible refine (cmp_isNaN_int.calls a1 false _ A4.out).mono ?_); rintro e w' ⟨rfl, ⟨nd, rfl⟩⟩; refine ⟨_, rfl, ?_⟩))
          go_ret
          exact ⟨by first | rfl | (simp; done) | (simp [*]; done), by repeat (first | exact Drawn0.refl _ | apply Drawn0.step)⟩
        · rw [if_neg c9] at H
          have c9b0 : decide (a1 < a0) = false := decide_eq_false c9
          clear c9
          obtain rfl := Option.some.inj H
          go_enter Try.func83, Try.ntmps83
          go_wp2_with (first | ((with_reducible refine gate_callee (f := 107) rfl ?_); refine goesL_ (some 8) rfl rfl Try.func107 (by kernel_rfl) rfl #[.int .i64 a0] rfl (by (try simp only [List.map_toArray, List.map_cons, List.map_nil]); first | done | rfl | (simp only [List.length_drop, List.length_take]; rfl)) ?_; (with_reducible refine (cmp_isNaN_int.calls a0 false _ A3.out).mono ?_); rintro e w' ⟨rfl, ⟨nd, rfl⟩⟩; refine ⟨_, rfl, ?_⟩) | ((with_reducible refine gate_callee (f := 107) rfl ?_); refine goesL_ (some 10) rfl rfl Try.func107 (by kernel_rfl) rfl #[.int .i64 a1] rfl (by (try simp only [List.map_toArray, List.map_cons, List.map_nil]); first | done | rfl | (simp only [List.length_drop, List.length_take]; rfl)) ?_; (with_reducible refine (cmp_isNaN_int.calls a1 false _ A4.out).mono ?_); rintro e w' ⟨rfl, ⟨nd, rfl⟩⟩; refine ⟨_, rfl, ?_⟩))
          go_ret
          exact ⟨by first | rfl | (simp; done) | (simp [*]; done), by repeat (first | exact Drawn0.refl _ | apply Drawn0.step)⟩
def cmp_Or_int.l0 : Nat → Int → List Int → Int → Int → Option (Int)
  | 0, _, _, _, _ => none
  | k + 1, x3, x6, x7, x8 => if x8 < x7 then (if 0 ≤ x8 then (if x8 < (x6.length : Int) then (if (rd x6 x8) = x3 then (cmp_Or_int.l0 k x3 x6 x7 (wrap64 (x8 + 1))) else (some (rd x6 x8))) else (none)) else (none)) else (some x3)
def cmp_Or_int.f (k : Nat) (l0 : List Int) : Option (Int) := cmp_Or_int.l0 k 0 l0 (l0.length : Int) 0
set_option maxHeartbeats 8000000 in
set_option maxRecDepth 100000 in
theorem cmp_Or_int.calls (k : Nat) (A0 : Option Addr) (c0 : Nat) (l0 : List Int) (r : Int) (w : World) (hr0 : Kd.C (Kd.int .i64) w A0 l0.length l0) (hc0 : l0.length ≤ c0) (h : cmp_Or_int.f k l0 = some r) :
    Calls Try.prog 86 #[.slice A0 l0.length c0] w fun e w' => e = .returned (.int .i64 r) ∧ Drawn0 w w' := by
  have HR0 := Aside0.mk hr0
  have HC0 := Aside0.mk hc0
  clear hr0 hc0
  have H : (cmp_Or_int.l0 k 0 l0 (l0.length : Int) 0) = some r := h
  clear h
  have H' := Aside0.mk H
  clear H
  go_enter Try.func86, Try.ntmps86
  go_wp2
  go_loopg [8] k (fun kq v8 w' => ∃ (x8_1 : Int), v8 = .int .i64 x8_1 ∧ Aside0 (cmp_Or_int.l0 kq 0 l0 (l0.length : Int) x8_1 = some r) ∧ Aside0 (kq ≤ k) ∧ Drawn0 w w')
  case atStart => exact ⟨(0), (by first | rfl | (simp; done) | (simp [*]; done)), H', ⟨Nat.le_refl _⟩, by repeat (first | exact Drawn0.refl _ | apply Drawn0.step)⟩
  case round =>
    clear H'
    obtain ⟨x8_1, rfl, HA, HK1, ⟨m1, rfl⟩⟩ := hrel
    cases gk with
    | zero => exact absurd HA.out (by simp [cmp_Or_int.l0])
    | succ k1 =>
      have H := HA.out
      clear HA
      simp only [cmp_Or_int.l0] at H
      by_cases c2 : x8_1 < (l0.length : Int)
      · rw [if_pos c2] at H
        have c2b0 : decide (x8_1 < (l0.length : Int)) = true := decide_eq_true c2
        clear c2
        by_cases c3 : 0 ≤ x8_1
        · rw [if_pos c3] at H
          have c3b0 : decide (0 ≤ x8_1) = true := decide_eq_true c3
          clear c3
          by_cases c4 : x8_1 < (l0.length : Int)
          · rw [if_pos c4] at H
            have c4b0 : decide (x8_1 < (l0.length : Int)) = true := decide_eq_true c4
            clear c4
            by_cases c5 : (rd l0 x8_1) = 0
            · rw [if_pos c5] at H
              have c5b0 : ((rd l0 x8_1) == 0) = true := beq_iff_eq.mpr c5
              have c5b1 : ((rd l0 x8_1) != 0) = false := bne_eq_false_iff_eq.mpr c5
              clear c5
              have H' := Aside0.mk H
              clear H
              have p397 : 0 ≤ (x8_1 : Int) := of_decide_eq_true (by first | (with_reducible assumption) | assumption)
              have q397 : x8_1 < (l0.length : Int) := of_decide_eq_true (by first | (with_reducible assumption) | assumption)
              obtain ⟨ad397, e397, hx397_0⟩ := Kd.at_int HR0.out x8_1 p397 q397
              cases e397
              replace p397 := eq_true p397
              replace q397 := eq_true q397
              go_wp2
              go_roundg k1
              case measure => have := HK1.out; omega
              case rel => exact ⟨(wrap64 (x8_1 + 1)), (by first | rfl | (simp; done) | (simp [*]; done)), H', ⟨by have := HK1.out; omega⟩, by repeat (first | exact Drawn0.refl _ | apply Drawn0.step)⟩
            · rw [if_neg c5] at H
              have c5b0 : ((rd l0 x8_1) == 0) = false := beq_eq_false_iff_ne.mpr c5
              have c5b1 : ((rd l0 x8_1) != 0) = true := bne_iff_ne.mpr c5
              obtain rfl := Option.some.inj H
              have p397 : 0 ≤ (x8_1 : Int) := of_decide_eq_true (by first | (with_reducible assumption) | assumption)
              have q397 : x8_1 < (l0.length : Int) := of_decide_eq_true (by first | (with_reducible assumption) | assumption)
              obtain ⟨ad397, e397, hx397_0⟩ := Kd.at_int HR0.out x8_1 p397 q397
              cases e397
              replace p397 := eq_true p397
              replace q397 := eq_true q397
              go_wp2
              go_ret
              exact ⟨by first | rfl | (simp; done) | (simp [*]; done), by repeat (first | exact Drawn0.refl _ | apply Drawn0.step)⟩
          · rw [if_neg c4] at H
            exact absurd H (by simp)
        · rw [if_neg c3] at H
          exact absurd H (by simp)
      · rw [if_neg c2] at H
        have c2b0 : decide (x8_1 < (l0.length : Int)) = false := decide_eq_false c2
        clear c2
        obtain rfl := Option.some.inj H
        go_wp2
        go_ret
        exact ⟨by first | rfl | (simp; done) | (simp [*]; done), by repeat (first | exact Drawn0.refl _ | apply Drawn0.step)⟩
def value_Order.f (k : Nat) (a0_0 : Int) (a0_1 : Int) (a0_2 : ByteArray) (a1_0 : Int) (a1_1 : Int) (a1_2 : ByteArray) : Option (Int) := (cmp_Compare_int.f a0_0 a1_0).bind fun t400 => ((cmp_Compare_int.f a0_1 a1_1).bind fun t401 => ((cmp_Compare_string.f a0_2 a1_2).bind fun t402 => ((cmp_Or_int.f k (([t400, t401, t402] : List Int))).bind fun t406 => (some t406))))
def value_Order.T1 : Bool × List (List Nat × List Nat) := (true, [([], []), ([0], [0]), ([], []), ([2], [2]), ([1, 3], [1, 3]), ([], []), ([5], [5]), ([], []), ([7], [7]), ([6, 8, 4], [6, 8]), ([], []), ([10], [10]), ([], []), ([12], [12]), ([11, 13, 9], [11, 13]), ([4, 9, 14], [4, 9, 14]), ([15, 14], [15]), ([16, 16, 0, 1, 2, 3, 4, 5, 6, 7, 8, 9, 10, 11, 12, 13, 14, 15, 16], [16])])
def value_Order.B1 : List Nat := [0, 1, 0, 4, 15, 0, 32, 0, 128, 511, 0, 1024, 0, 4096, 16383, 32767, 65535, 131071]
theorem value_Order.tab1 : rtab .any (opsOf Try.f50 1) = value_Order.T1 := by kernel_rfl
theorem value_Order.bits1 : waitsOk value_Order.T1.2 value_Order.B1 = true := by kernel_rfl
set_option maxHeartbeats 8000000 in
set_option maxRecDepth 100000 in
theorem value_Order.calls (k : Nat) (a0_0 : Int) (a0_1 : Int) (a0_2 : ByteArray) (a1_0 : Int) (a1_1 : Int) (a1_2 : ByteArray) (r : Int) (w : World) (h : value_Order.f k a0_0 a0_1 a0_2 a1_0 a1_1 a1_2 = some r) :
    Calls Try.prog 50 #[.agg #[.int .i64 a0_0, .int .i64 a0_1, .string a0_2], .agg #[.int .i64 a1_0, .int .i64 a1_1, .string a1_2]] w fun e w' => e = .returned (.int .i64 r) ∧ Below w.heap.size w w' := by
  have hu33 := Try.underlying33
  have HB := Aside0.mk (Below.refl w.heap.size w)
  have H : ((cmp_Compare_int.f a0_0 a1_0).bind fun t400 => ((cmp_Compare_int.f a0_1 a1_1).bind fun t401 => ((cmp_Compare_string.f a0_2 a1_2).bind fun t402 => ((cmp_Or_int.f k (([t400, t401, t402] : List Int))).bind fun t406 => (some t406))))) = some r := h
  clear h
  replace H := Option.bind_eq_some_iff.mp H
  obtain ⟨t400, A30, H⟩ := H
  replace H : ((cmp_Compare_int.f a0_1 a1_1).bind fun t401 => ((cmp_Compare_string.f a0_2 a1_2).bind fun t402 => ((cmp_Or_int.f k (([t400, t401, t402] : List Int))).bind fun t406 => (some t406)))) = some r := H
  have A3 := Aside0.mk A30
  clear A30
  replace H := Option.bind_eq_some_iff.mp H
  obtain ⟨t401, A40, H⟩ := H
  replace H : ((cmp_Compare_string.f a0_2 a1_2).bind fun t402 => ((cmp_Or_int.f k (([t400, t401, t402] : List Int))).bind fun t406 => (some t406))) = some r := H
  have A4 := Aside0.mk A40
  clear A40
  replace H := Option.bind_eq_some_iff.mp H
  obtain ⟨t402, A50, H⟩ := H
  replace H : ((cmp_Or_int.f k (([t400, t401, t402] : List Int))).bind fun t406 => (some t406)) = some r := H
  have A5 := Aside0.mk A50
  clear A50
  obtain ⟨y403, hy403⟩ : ∃ y_ : List Int, y_ = (([t400, t401, t402] : List Int)) := ⟨_, rfl⟩
  replace H : ((cmp_Or_int.f k y403).bind fun t406 => (some t406)) = some r := by first | (rw [hy403]; with_reducible exact H) | (have H2_ := (Option.bind_some _ _).symm.trans H; rw [hy403]; with_reducible exact H2_) | (have H2_ := (Option.bind_some _ _).symm.trans H; with_reducible exact H2_) | with_reducible exact H | (rw [hy403]; exact H) | exact H
  have Ny403 := Aside0.mk hy403
  clear hy403
  replace H := Option.bind_eq_some_iff.mp H
  obtain ⟨t406, A60, H⟩ := H
  replace H : (some t406) = some r := H
  have A6 := Aside0.mk A60
  clear A60
  obtain rfl := Option.some.inj H
  go_enter Try.func50, Try.ntmps50
  try go_wp2_with (first | ((with_reducible refine gate_dst (N := 2) rfl ?_); refine box_event ?hg (N := 2) ?hd (cs := #[.int .i64 a0_0, .int .i64 a0_1, .string a0_2]) (t := 33) ?hr ?_; (case hd => rfl); (case hg => rfl); (case hr => first | (go_simp; done) | (go_simp; rfl)); intro gb398 hg w7 hbox hb; have n0_ := Aside0.mk (below_step (by repeat (first | (with_reducible first | exact HB.out | apply below_alloc | apply pw_below_drewN | apply below_drew1) | exact HB.out)) hb); have n1_ := Aside0.mk (hbox); have n2_ := Aside0.mk ((by rw [hg]; exact (below_size (by repeat (first | (with_reducible first | exact HB.out | apply below_alloc | apply pw_below_drewN | apply below_drew1) | exact HB.out))) : w.heap.size ≤ gb398)); have n3_ := Aside0.mk ((by rw [hg]; exact (below_size (by repeat (first | (with_reducible first | exact HB.out | apply below_alloc | apply pw_below_drewN | apply below_drew1) | exact HB.out))) : w.heap.size ≤ gb398)); clear HB; have HB := n0_; have BK398 := n1_; have GW398 := n2_; have GE398 := n3_; clear n0_ n1_ n2_ n3_; clear hb hbox hg) | ((with_reducible refine gate_dst (N := 3) rfl ?_); refine box_event ?hg (N := 3) ?hd (cs := #[.int .i64 a1_0, .int .i64 a1_1, .string a1_2]) (t := 33) ?hr ?_; (case hd => rfl); (case hg => rfl); (case hr => first | (go_simp; done) | (go_simp; rfl)); intro gb399 hg w8 hbox hb; have n0_ := Aside0.mk (blk_below (g := gb398) (o := .cells #[.int .i64 a0_0, .int .i64 a0_1, .string a0_2] 33 (0, 0)) (by (with_reducible repeat (first | refine blk_drewN ?_ _ | refine blk_drew ?_ | refine blk_alloc ?_ _)); exact BK398.out) hb); have n1_ := Aside0.mk (below_step (by repeat (first | (with_reducible first | exact HB.out | apply below_alloc | apply pw_below_drewN | apply below_drew1 | refine below_set ?_ GE398.out) | exact HB.out)) hb); have n2_ := Aside0.mk (hbox); have n3_ := Aside0.mk ((by rw [hg]; exact (below_size (by repeat (first | (with_reducible first | exact HB.out | apply below_alloc | apply pw_below_drewN | apply below_drew1 | refine below_set ?_ GE398.out) | exact HB.out))) : w.heap.size ≤ gb399)); have n4_ := Aside0.mk ((by rw [hg]; exact (below_size (by repeat (first | (with_reducible first | exact HB.out | apply below_alloc | apply pw_below_drewN | apply below_drew1 | refine below_set ?_ GE398.out) | exact HB.out))) : w.heap.size ≤ gb399)); have n5_ := Aside0.mk ((by rw [hg]; exact Nat.ne_of_lt (blk_lt (g := gb398) (o := .cells #[.int .i64 a0_0, .int .i64 a0_1, .string a0_2] 33 (0, 0)) (by (with_reducible repeat (first | refine blk_drewN ?_ _ | refine blk_drew ?_ | refine blk_alloc ?_ _)); exact BK398.out)) : gb398 ≠ gb399)); have n6_ := Aside0.mk ((by rw [hg]; exact Nat.ne_of_gt (blk_lt (g := gb398) (o := .cells #[.int .i64 a0_0, .int .i64 a0_1, .string a0_2] 33 (0, 0)) (by (with_reducible repeat (first | refine blk_drewN ?_ _ | refine blk_drew ?_ | refine blk_alloc ?_ _)); exact BK398.out)) : gb399 ≠ gb398)); clear BK398; clear HB; have BK398 := n0_; have HB := n1_; have BK399 := n2_; have GW399 := n3_; have GE399 := n4_; have NB398_399 := n5_; have NB399_398 := n6_; clear n0_ n1_ n2_ n3_ n4_ n5_ n6_; clear hb hbox hg))
  have n0_ := Aside0.mk (blk_drew BK398.out)
  have n1_ := Aside0.mk (blk_drew BK399.out)
  have n2_ := Aside0.mk (below_drew1 HB.out)
  clear BK398
  clear BK399
  clear HB
  have BK398 := n0_
  have BK399 := n1_
  have HB := n2_
  clear n0_ n1_ n2_
  refine start_ (n := 18) (S := fun w' => w'.cell? ⟨gb398, 0, none⟩ = some (.int .i64 a0_0) ∧ w'.cell? ⟨gb398, 1, none⟩ = some (.int .i64 a0_1) ∧ w'.cell? ⟨gb398, 2, none⟩ = some (.string a0_2) ∧ w'.cell? ⟨gb399, 0, none⟩ = some (.int .i64 a1_0) ∧ w'.cell? ⟨gb399, 1, none⟩ = some (.int .i64 a1_1) ∧ w'.cell? ⟨gb399, 2, none⟩ = some (.string a1_2)) (ds := []) #[false, false, false, false, false, false, false, false, false, false, false, false, false, false, false, false, false, false] (by kernel_rfl) rfl rfl ⟨(blk_cell BK398.out 0).trans rfl, (blk_cell BK398.out 1).trans rfl, (blk_cell BK398.out 2).trans rfl, (blk_cell BK399.out 0).trans rfl, (blk_cell BK399.out 1).trans rfl, (blk_cell BK399.out 2).trans rfl⟩ (fun hHeld => ?_); refine with_tabW value_Order.tab1 value_Order.bits1 (fun HT_ HW_ => ?_)
  generalize w8.drew = w9 at BK398 BK399 HB hHeld ⊢
  refine pure_ (i := 0) (N := some 5) (v := ?_) (a' := ?_) #[true, false, false, false, false, false, false, false, false, false, false, false, false, false, false, false, false, false] rfl rfl (any_of HT_.out (by kernel_rfl)) (fun _ _ _ h => h) (Or.inl ⟨by rfl, ?_⟩) ?_ ?_
  rotate_left
  · intro w'
    go_simp
    with_reducible rfl
  rotate_left
  · simp only [Act.put, List.setIfInBounds_toArray, List.set_cons_zero, List.set_cons_succ, i64_w, i32_w]
    rfl
  refine pure_ (i := 2) (N := some 7) (v := ?_) (a' := ?_) #[true, false, true, false, false, false, false, false, false, false, false, false, false, false, false, false, false, false] rfl rfl (any_of HT_.out (by kernel_rfl)) (fun _ _ _ h => h) (Or.inl ⟨by rfl, ?_⟩) ?_ ?_
  rotate_left
  · intro w'
    go_simp
    with_reducible rfl
  rotate_left
  · simp only [Act.put, List.setIfInBounds_toArray, List.set_cons_zero, List.set_cons_succ, i64_w, i32_w]
    rfl
  refine pure_ (i := 5) (N := some 10) (v := ?_) (a' := ?_) #[true, false, true, false, false, true, false, false, false, false, false, false, false, false, false, false, false, false] rfl rfl (any_of HT_.out (by kernel_rfl)) (fun _ _ _ h => h) (Or.inl ⟨by rfl, ?_⟩) ?_ ?_
  rotate_left
  · intro w'
    go_simp
    with_reducible rfl
  rotate_left
  · simp only [Act.put, List.setIfInBounds_toArray, List.set_cons_zero, List.set_cons_succ, i64_w, i32_w]
    rfl
  refine pure_ (i := 7) (N := some 12) (v := ?_) (a' := ?_) #[true, false, true, false, false, true, false, true, false, false, false, false, false, false, false, false, false, false] rfl rfl (any_of HT_.out (by kernel_rfl)) (fun _ _ _ h => h) (Or.inl ⟨by rfl, ?_⟩) ?_ ?_
  rotate_left
  · intro w'
    go_simp
    with_reducible rfl
  rotate_left
  · simp only [Act.put, List.setIfInBounds_toArray, List.set_cons_zero, List.set_cons_succ, i64_w, i32_w]
    rfl
  refine pure_ (i := 10) (N := some 15) (v := ?_) (a' := ?_) #[true, false, true, false, false, true, false, true, false, false, true, false, false, false, false, false, false, false] rfl rfl (any_of HT_.out (by kernel_rfl)) (fun _ _ _ h => h) (Or.inl ⟨by rfl, ?_⟩) ?_ ?_
  rotate_left
  · intro w'
    go_simp
    with_reducible rfl
  rotate_left
  · simp only [Act.put, List.setIfInBounds_toArray, List.set_cons_zero, List.set_cons_succ, i64_w, i32_w]
    rfl
  refine pure_ (i := 12) (N := some 17) (v := ?_) (a' := ?_) #[true, false, true, false, false, true, false, true, false, false, true, false, true, false, false, false, false, false] rfl rfl (any_of HT_.out (by kernel_rfl)) (fun _ _ _ h => h) (Or.inl ⟨by rfl, ?_⟩) ?_ ?_
  rotate_left
  · intro w'
    go_simp
    with_reducible rfl
  rotate_left
  · simp only [Act.put, List.setIfInBounds_toArray, List.set_cons_zero, List.set_cons_succ, i64_w, i32_w]
    rfl
  refine take_ (i := 1) (N := some 6) (v := ?_) (a' := ?_) #[true, true, true, false, false, true, false, true, false, false, true, false, true, false, false, false, false, false] rfl rfl (take_ofW HT_.out HW_.out (by kernel_rfl)) (fun _ _ _ h => h) (Or.inl ⟨by rfl, ?_⟩) hHeld ?_ ?_
  rotate_left
  · rintro w' ⟨s0, s1, s2, s3, s4, s5⟩
    go_simp
    with_reducible rfl
  rotate_left
  · simp only [Act.put, List.setIfInBounds_toArray, List.set_cons_zero, List.set_cons_succ, i64_w, i32_w]
    rfl
  refine take_ (i := 3) (N := some 8) (v := ?_) (a' := ?_) #[true, true, true, true, false, true, false, true, false, false, true, false, true, false, false, false, false, false] rfl rfl (take_ofW HT_.out HW_.out (by kernel_rfl)) (fun _ _ _ h => h) (Or.inl ⟨by rfl, ?_⟩) hHeld ?_ ?_
  rotate_left
  · rintro w' ⟨s0, s1, s2, s3, s4, s5⟩
    go_simp
    with_reducible rfl
  rotate_left
  · simp only [Act.put, List.setIfInBounds_toArray, List.set_cons_zero, List.set_cons_succ, i64_w, i32_w]
    rfl
  refine take_ (i := 6) (N := some 11) (v := ?_) (a' := ?_) #[true, true, true, true, false, true, true, true, false, false, true, false, true, false, false, false, false, false] rfl rfl (take_ofW HT_.out HW_.out (by kernel_rfl)) (fun _ _ _ h => h) (Or.inl ⟨by rfl, ?_⟩) hHeld ?_ ?_
  rotate_left
  · rintro w' ⟨s0, s1, s2, s3, s4, s5⟩
    go_simp
    with_reducible rfl
  rotate_left
  · simp only [Act.put, List.setIfInBounds_toArray, List.set_cons_zero, List.set_cons_succ, i64_w, i32_w]
    rfl
  refine take_ (i := 8) (N := some 13) (v := ?_) (a' := ?_) #[true, true, true, true, false, true, true, true, true, false, true, false, true, false, false, false, false, false] rfl rfl (take_ofW HT_.out HW_.out (by kernel_rfl)) (fun _ _ _ h => h) (Or.inl ⟨by rfl, ?_⟩) hHeld ?_ ?_
  rotate_left
  · rintro w' ⟨s0, s1, s2, s3, s4, s5⟩
    go_simp
    with_reducible rfl
  rotate_left
  · simp only [Act.put, List.setIfInBounds_toArray, List.set_cons_zero, List.set_cons_succ, i64_w, i32_w]
    rfl
  refine take_ (i := 11) (N := some 16) (v := ?_) (a' := ?_) #[true, true, true, true, false, true, true, true, true, false, true, true, true, false, false, false, false, false] rfl rfl (take_ofW HT_.out HW_.out (by kernel_rfl)) (fun _ _ _ h => h) (Or.inl ⟨by rfl, ?_⟩) hHeld ?_ ?_
  rotate_left
  · rintro w' ⟨s0, s1, s2, s3, s4, s5⟩
    go_simp
    with_reducible rfl
  rotate_left
  · simp only [Act.put, List.setIfInBounds_toArray, List.set_cons_zero, List.set_cons_succ, i64_w, i32_w]
    rfl
  refine take_ (i := 13) (N := some 18) (v := ?_) (a' := ?_) #[true, true, true, true, false, true, true, true, true, false, true, true, true, true, false, false, false, false] rfl rfl (take_ofW HT_.out HW_.out (by kernel_rfl)) (fun _ _ _ h => h) (Or.inl ⟨by rfl, ?_⟩) hHeld ?_ ?_
  rotate_left
  · rintro w' ⟨s0, s1, s2, s3, s4, s5⟩
    go_simp
    with_reducible rfl
  rotate_left
  · simp only [Act.put, List.setIfInBounds_toArray, List.set_cons_zero, List.set_cons_succ, i64_w, i32_w]
    rfl
  refine one_ (i := 4) (N := some 9) #[true, true, true, true, true, true, true, true, true, false, true, true, true, true, false, false, false, false] rfl rfl (one_of HT_.out (by kernel_rfl)) (by decide) (fun K hK => ?_)
  refine goes_ Try.func83 (by kernel_rfl) rfl #[.int .i64 a0_0, .int .i64 a1_0] (by rfl) rfl rfl (by (try simp only [List.map_toArray, List.map_cons, List.map_nil]); first | done | rfl | (simp only [List.length_drop, List.length_take]; rfl)) ?_
  with_reducible refine (cmp_Compare_int.calls a0_0 a1_0 t400 _ A3.out).mono ?_
  rintro e w' ⟨rfl, ⟨nd, rfl⟩⟩
  refine ⟨_, rfl, ?_⟩
  refine hK.out _ _ ⟨(blk_cell BK398.out 0).trans rfl, (blk_cell BK398.out 1).trans rfl, (blk_cell BK398.out 2).trans rfl, (blk_cell BK399.out 0).trans rfl, (blk_cell BK399.out 1).trans rfl, (blk_cell BK399.out 2).trans rfl⟩ (fun hHeld => ?_)
  clear hK K
  refine norm_ (a' := ?_) ?_ ?_
  rotate_left
  · show Act.put _ (some 9) _ = _
    simp only [Act.put, List.setIfInBounds_toArray, List.set_cons_zero, List.set_cons_succ, i64_w, i32_w]
    rfl
  refine one_ (i := 9) (N := some 14) #[true, true, true, true, true, true, true, true, true, true, true, true, true, true, false, false, false, false] rfl rfl (one_of HT_.out (by kernel_rfl)) (by decide) (fun K hK => ?_)
  refine goes_ Try.func83 (by kernel_rfl) rfl #[.int .i64 a0_1, .int .i64 a1_1] (by rfl) rfl rfl (by (try simp only [List.map_toArray, List.map_cons, List.map_nil]); first | done | rfl | (simp only [List.length_drop, List.length_take]; rfl)) ?_
  with_reducible refine (cmp_Compare_int.calls a0_1 a1_1 t401 _ A4.out).mono ?_
  rintro e w' ⟨rfl, ⟨nd, rfl⟩⟩
  refine ⟨_, rfl, ?_⟩
  refine hK.out _ _ ⟨(blk_cell BK398.out 0).trans rfl, (blk_cell BK398.out 1).trans rfl, (blk_cell BK398.out 2).trans rfl, (blk_cell BK399.out 0).trans rfl, (blk_cell BK399.out 1).trans rfl, (blk_cell BK399.out 2).trans rfl⟩ (fun hHeld => ?_)
  clear hK K
  refine norm_ (a' := ?_) ?_ ?_
  rotate_left
  · show Act.put _ (some 14) _ = _
    simp only [Act.put, List.setIfInBounds_toArray, List.set_cons_zero, List.set_cons_succ, i64_w, i32_w]
    rfl
  refine one_ (i := 14) (N := some 19) #[true, true, true, true, true, true, true, true, true, true, true, true, true, true, true, false, false, false] rfl rfl (one_of HT_.out (by kernel_rfl)) (by decide) (fun K hK => ?_)
  refine goes_ Try.func87 (by kernel_rfl) rfl #[.string a0_2, .string a1_2] (by rfl) rfl rfl (by (try simp only [List.map_toArray, List.map_cons, List.map_nil]); first | done | rfl | (simp only [List.length_drop, List.length_take]; rfl)) ?_
  with_reducible refine (cmp_Compare_string.calls a0_2 a1_2 t402 _ A5.out).mono ?_
  rintro e w' ⟨rfl, ⟨nd, rfl⟩⟩
  refine ⟨_, rfl, ?_⟩
  refine hK.out _ _ ⟨(blk_cell BK398.out 0).trans rfl, (blk_cell BK398.out 1).trans rfl, (blk_cell BK398.out 2).trans rfl, (blk_cell BK399.out 0).trans rfl, (blk_cell BK399.out 1).trans rfl, (blk_cell BK399.out 2).trans rfl⟩ (fun hHeld => ?_)
  clear hK K
  refine norm_ (a' := ?_) ?_ ?_
  rotate_left
  · show Act.put _ (some 19) _ = _
    simp only [Act.put, List.setIfInBounds_toArray, List.set_cons_zero, List.set_cons_succ, i64_w, i32_w]
    rfl
  refine one_ (i := 15) (N := some 20) #[true, true, true, true, true, true, true, true, true, true, true, true, true, true, true, true, false, false] rfl rfl (one_of HT_.out (by kernel_rfl)) (by decide) (fun K hK => ?_)
  refine Kd.R_lit_step (Kd.int .i64) _ 3 ?hg (N := 20) ?hd (xs := ([t400, t401, t402] : List Int)) (inner := [.int .i64 t400, .int .i64 t401, .int .i64 t402]) (ok := fun _ => True) (okp := fun _ => True) ?hr ?hp (fun _ hk => hk) trivial (Below.refl _ _) (Nat.le_refl _) (by simp) ?_; (case hd => rfl); (case hg => rfl); (case hr => first | (go_simp; done) | (go_simp; rfl)); (case hp => exact (Reps.one (show Kd.M (Kd.int .i64) _ _ _ t400 [.int .i64 t400] from rfl) (Reps.one (show Kd.M (Kd.int .i64) _ _ _ t401 [.int .i64 t401] from rfl) (Reps.one (show Kd.M (Kd.int .i64) _ _ _ t402 [.int .i64 t402] from rfl) (Reps.none _ _)))))
  intro v404 w10 ho11 hb hg_ hnew_
  clear hg_ hnew_
  (first | rw [← Ny403.out] at ho11 | (simp only [Int.reduceToNat] at ho11; rw [← Ny403.out] at ho11))
  have n0_ := Aside0.mk (Kd.R_lower ho11 (below_size (by repeat (first | (with_reducible first | exact HB.out | apply below_alloc | apply pw_below_drewN | apply below_drew1 | refine below_set ?_ GE398.out | refine below_set ?_ GE399.out) | exact HB.out))))
  have n1_ := Aside0.mk (blk_below (g := gb398) (o := .cells #[.int .i64 a0_0, .int .i64 a0_1, .string a0_2] 33 (0, 0)) (by (with_reducible repeat (first | refine blk_drewN ?_ _ | refine blk_drew ?_ | refine blk_alloc ?_ _)); exact BK398.out) hb)
  have n2_ := Aside0.mk (blk_below (g := gb399) (o := .cells #[.int .i64 a1_0, .int .i64 a1_1, .string a1_2] 33 (0, 0)) (by (with_reducible repeat (first | refine blk_drewN ?_ _ | refine blk_drew ?_ | refine blk_alloc ?_ _)); exact BK399.out) hb)
  have n3_ := Aside0.mk (below_step (by repeat (first | (with_reducible first | exact HB.out | apply below_alloc | apply pw_below_drewN | apply below_drew1 | refine below_set ?_ GE398.out | refine below_set ?_ GE399.out) | exact HB.out)) hb)
  clear BK398
  clear BK399
  clear HB
  have HO405 := n0_
  have BK398 := n1_
  have BK399 := n2_
  have HB := n3_
  clear n0_ n1_ n2_ n3_
  clear hb ho11
  obtain ⟨Ao12, co12, eo12⟩ := Kd.R_slice HO405.out
  (first | subst eo12 | (injection eo12 with f1_ f2_ f3_; have f4_ := f1_.symm; have f5_ := f3_.symm; clear f1_ f2_ f3_; subst f4_; subst f5_))
  refine hK.out _ _ ⟨(blk_cell BK398.out 0).trans rfl, (blk_cell BK398.out 1).trans rfl, (blk_cell BK398.out 2).trans rfl, (blk_cell BK399.out 0).trans rfl, (blk_cell BK399.out 1).trans rfl, (blk_cell BK399.out 2).trans rfl⟩ (fun hHeld => ?_)
  clear hK K
  refine norm_ (a' := ?_) ?_ ?_
  rotate_left
  · show Act.put _ (some 20) _ = _
    simp only [Act.put, List.setIfInBounds_toArray, List.set_cons_zero, List.set_cons_succ, i64_w, i32_w]
    rfl
  refine one_ (i := 16) (N := some 21) #[true, true, true, true, true, true, true, true, true, true, true, true, true, true, true, true, true, false] rfl rfl (one_of HT_.out (by kernel_rfl)) (by decide) (fun K hK => ?_)
  refine goes_ Try.func86 (by kernel_rfl) rfl #[.slice Ao12 y403.length co12] (by rfl) rfl rfl (by (try simp only [List.map_toArray, List.map_cons, List.map_nil]); first | done | rfl | (simp only [List.length_drop, List.length_take]; rfl)) ?_
  with_reducible refine (cmp_Or_int.calls k _ _ y403 t406 _ ?side1 ?side2 A6.out).mono ?_
  (case side1 => repeat (first | exact (Kd.R_reads' HO405.out).2.2 | (with_reducible refine Kd.C_alloc ?_ _) | (with_reducible refine Kd.C_drewN ?_ _) | (with_reducible refine Kd.C_drew ?_)))
  (case side2 => exact (Kd.R_reads' HO405.out).2.1)
  rintro e w' ⟨rfl, ⟨nd, rfl⟩⟩
  refine ⟨_, rfl, ?_⟩
  refine hK.out _ _ ⟨(blk_cell BK398.out 0).trans rfl, (blk_cell BK398.out 1).trans rfl, (blk_cell BK398.out 2).trans rfl, (blk_cell BK399.out 0).trans rfl, (blk_cell BK399.out 1).trans rfl, (blk_cell BK399.out 2).trans rfl⟩ (fun hHeld => ?_)
  clear hK K
  refine norm_ (a' := ?_) ?_ ?_
  rotate_left
  · show Act.put _ (some 21) _ = _
    simp only [Act.put, List.setIfInBounds_toArray, List.set_cons_zero, List.set_cons_succ, i64_w, i32_w]
    rfl
  refine pure_ (i := 17) (N := some 4) (v := ?_) (a' := ?_) #[true, true, true, true, true, true, true, true, true, true, true, true, true, true, true, true, true, true] rfl rfl (any_of HT_.out (by kernel_rfl)) (fun _ _ _ h => h) (Or.inl ⟨by rfl, ?_⟩) ?_ ?_
  rotate_left
  · intro w'
    go_simp
    with_reducible rfl
  rotate_left
  · simp only [Act.put, List.setIfInBounds_toArray, List.set_cons_zero, List.set_cons_succ, i64_w, i32_w]
    rfl
  refine done_ (done_of HT_.out (by kernel_rfl)) ?_
  try go_wp2
  go_ret
  exact ⟨by first | rfl | (simp [errW_none, errW_some] <;> rfl) | (simp [*, errW_none, errW_some] <;> rfl), by repeat (first | (with_reducible first | exact HB.out | apply below_alloc | apply pw_below_drewN | apply below_drew1 | refine below_set ?_ GE398.out | refine below_set ?_ GE399.out) | exact HB.out)⟩
end Go.Proofs.Ythghflgmeepnlaa.Pa
end
section
namespace Go.Proofs.Ythghflgmeepnlaa.Pa
open Go.RowKit Go.Proofs.YthghflgmeepnlaaW.PrintWords Go.Proofs.YthghflgmeepnlaaW.PrintLast Go.Proofs.YthghflgmeepnlaaW.PrintMore
attribute [local go_sem] max2_int max_two
set_option linter.unusedVariables false
set_option linter.unusedSimpArgs false
mutual
def rows_order.l0 : Nat → List (S33) → List (S33) → List Bool → Int → Int → Option (Int)
  | 0, _, _, _, _, _ => none
  | k + 1, x0, x1, x2, x13, x14 => if x14 < x13 then (if x14 ≥ (x0.length : Int) then (rows_order.j1 k x0 x1 x2 x14 (-1) x13 x14) else (if x14 ≥ (x1.length : Int) then (rows_order.j1 k x0 x1 x2 x14 1 x13 x14) else (if 0 ≤ x14 then (if x14 < (x0.length : Int) then (if x14 < (x1.length : Int) then ((value_Order.f k ((rd_T33 x0 x14).f0) ((rd_T33 x0 x14).f1) ((rd_T33 x0 x14).f2) ((rd_T33 x1 x14).f0) ((rd_T33 x1 x14).f1) ((rd_T33 x1 x14).f2)).bind fun t755 => (rows_order.j1 k x0 x1 x2 x14 t755 x13 x14)) else (none)) else (none)) else (none)))) else (some 0)
def rows_order.j1 : Nat → List (S33) → List (S33) → List Bool → Int → Int → Int → Int → Option (Int)
  | 0, _, _, _, _, _, _, _ => none
  | k + 1, x0, x1, x2, x7, x8, x13, x14 => if x8 = 0 then (rows_order.l0 k x0 x1 x2 x13 (wrap64 (x14 + 1))) else (if x7 < (x2.length : Int) then (if 0 ≤ x7 then (if rdOf false x2 x7 = true then (some (wrap64 (-x8))) else (some x8)) else (none)) else (some x8))
end
def rows_order.f (k : Nat) (l0 : List (S33)) (l1 : List (S33)) (l2 : List Bool) : Option (Int) := rows_order.l0 k l0 l1 l2 (mx (l0.length : Int) (l1.length : Int)) 0
def rows_order.T5 : Bool × List (List Nat × List Nat) := (true, [([], []), ([], []), ([0, 1], [0, 1]), ([2], [2]), ([], []), ([], []), ([4, 5], [4, 5]), ([6], [6]), ([3, 7], [3, 7]), ([8, 8, 0, 1, 2, 3, 4, 5, 6, 7, 8], [8])])
def rows_order.B5 : List Nat := [0, 0, 3, 7, 0, 0, 48, 112, 255, 511]
theorem rows_order.tab5 : rtab .any (opsOf Try.f96 5) = rows_order.T5 := by kernel_rfl
theorem rows_order.bits5 : waitsOk rows_order.T5.2 rows_order.B5 = true := by kernel_rfl
set_option maxHeartbeats 8000000 in
set_option maxRecDepth 100000 in
theorem rows_order.calls (k : Nat) (A0 : Option Addr) (c0 : Nat) (l0 : List (S33)) (A1 : Option Addr) (c1 : Nat) (l1 : List (S33)) (A2 : Option Addr) (c2 : Nat) (l2 : List Bool) (r : Int) (w : World) (hr0 : Kd.C k33 w A0 l0.length l0) (hc0 : l0.length ≤ c0) (hr1 : Kd.C k33 w A1 l1.length l1) (hc1 : l1.length ≤ c1) (hr2 : Kd.C Kd.bool w A2 l2.length l2) (hc2 : l2.length ≤ c2) (h : rows_order.f k l0 l1 l2 = some r) :
    Calls Try.prog 96 #[.slice A0 l0.length c0, .slice A1 l1.length c1, .slice A2 l2.length c2] w fun e w' => e = .returned (.int .i64 r) ∧ Below w.heap.size w w' := by
  have hu33 := Try.underlying33
  have HR0 := Aside0.mk hr0
  have HC0 := Aside0.mk hc0
  clear hr0 hc0
  have HR1 := Aside0.mk hr1
  have HC1 := Aside0.mk hc1
  clear hr1 hc1
  have HR2 := Aside0.mk hr2
  have HC2 := Aside0.mk hc2
  clear hr2 hc2
  have HB := Aside0.mk (Below.refl w.heap.size w)
  have H : (rows_order.l0 k l0 l1 l2 (mx (l0.length : Int) (l1.length : Int)) 0) = some r := h
  clear h
  obtain ⟨ji4, hji4⟩ : ∃ j_ : Int, (mx (l0.length : Int) (l1.length : Int)) = j_ := ⟨_, rfl⟩
  replace H : (rows_order.l0 k l0 l1 l2 ji4 0) = some r := by first | (rw [hji4] at H; exact H) | (simp only [hji4] at H ⊢; exact H)
  (try (have hji4l : 0 ≤ ji4 := by (rw [← hji4]; unfold mx; (repeat' split) <;> omega)))
  (try (have hji4m : 0 ≤ ji4 := by omega))
  have hji4_ : (if (l0.length : Int) < (l1.length : Int) then (l1.length : Int) else (l0.length : Int)) = ji4 := hji4
  have hji4n : (if l0.length < l1.length then (l1.length : Int) else (l0.length : Int)) = ji4 := by
    rw [← hji4]; unfold mx; (repeat' split) <;> omega
  have H' := Aside0.mk H
  clear H
  go_enter Try.func96, Try.ntmps96
  go_wp2
  go_loopg [14] k (fun kq v14 w' => ∃ (x14_1 : Int), v14 = .int .i64 x14_1 ∧ Aside0 (rows_order.l0 kq l0 l1 l2 ji4 x14_1 = some r) ∧ Aside0 (kq ≤ k) ∧ Aside0 (Below w.heap.size w w'))
  case atStart => exact ⟨(0), (by first | rfl | (simp; done) | (simp [*]; done)), H', ⟨Nat.le_refl _⟩, ⟨by repeat (first | (with_reducible first | exact HB.out | apply below_alloc | apply pw_below_drewN | apply below_drew1) | exact HB.out)⟩⟩
  case round =>
    clear H'
    try clear c1
    try clear c2
    try clear p2
    obtain ⟨x14_1, rfl, HA, HK1, HB⟩ := hrel
    cases gk with
    | zero => exact absurd HA.out (by simp [rows_order.l0])
    | succ k1 =>
      have H := HA.out
      clear HA
      simp only [rows_order.l0] at H
      by_cases c5 : x14_1 < ji4
      · rw [if_pos c5] at H
        have c5b0 : decide (x14_1 < ji4) = true := decide_eq_true c5
        clear c5
        have HC6 := Aside0.mk H
        clear H
        go_upto_block 2 with (fail)
        go_cut [8] (fun v8 wc => ∃ (kq : Nat) (x8_5 : Int), v8 = .int .i64 x8_5 ∧ Aside0 (rows_order.j1 kq l0 l1 l2 x14_1 x8_5 ji4 x14_1 = some r) ∧ Aside0 (kq ≤ k1) ∧ Aside0 (Below w.heap.size w wc))
        case first =>
          have H := HC6.out
          clear HC6
          by_cases c7 : x14_1 ≥ (l0.length : Int)
          · rw [if_pos c7] at H
            have c7b0 : decide ((l0.length : Int) ≤ x14_1) = true := decide_eq_true c7
            clear c7
            (first | rw [c7b0] | (simp only [i64_w, i32_w]; rw [c7b0]) | skip)
            have H' := Aside0.mk H
            clear H
            go_wp2
            go_meet
            case rel => exact ⟨_, ((-1)), (by first | rfl | (simp; done) | (simp [*]; done)), H', ⟨by have := HK1.out; first | omega | exact Nat.le_refl _⟩, ⟨by repeat (first | (with_reducible first | exact HB.out | apply below_alloc | apply pw_below_drewN | apply below_drew1) | exact HB.out)⟩⟩
          · rw [if_neg c7] at H
            have c7b0 : decide ((l0.length : Int) ≤ x14_1) = false := decide_eq_false c7
            clear c7
            (first | rw [c7b0] | (simp only [i64_w, i32_w]; rw [c7b0]) | skip)
            by_cases c8 : x14_1 ≥ (l1.length : Int)
            · rw [if_pos c8] at H
              have c8b0 : decide ((l1.length : Int) ≤ x14_1) = true := decide_eq_true c8
              clear c8
              have H' := Aside0.mk H
              clear H
              go_wp2
              go_meet
              case rel => exact ⟨_, (1), (by first | rfl | (simp; done) | (simp [*]; done)), H', ⟨by have := HK1.out; first | omega | exact Nat.le_refl _⟩, ⟨by repeat (first | (with_reducible first | exact HB.out | apply below_alloc | apply pw_below_drewN | apply below_drew1) | exact HB.out)⟩⟩
            · rw [if_neg c8] at H
              have c8b0 : decide ((l1.length : Int) ≤ x14_1) = false := decide_eq_false c8
              clear c8
              by_cases c9 : 0 ≤ x14_1
              · rw [if_pos c9] at H
                have c9b0 : decide (0 ≤ x14_1) = true := decide_eq_true c9
                clear c9
                by_cases c10 : x14_1 < (l0.length : Int)
                · rw [if_pos c10] at H
                  have c10b0 : decide (x14_1 < (l0.length : Int)) = true := decide_eq_true c10
                  clear c10
                  by_cases c11 : x14_1 < (l1.length : Int)
                  · rw [if_pos c11] at H
                    have c11b0 : decide (x14_1 < (l1.length : Int)) = true := decide_eq_true c11
                    clear c11
                    replace H := Option.bind_eq_some_iff.mp H
                    obtain ⟨t755, A120, H⟩ := H
                    replace H : (rows_order.j1 k1 l0 l1 l2 x14_1 t755 ji4 x14_1) = some r := H
                    have A12 := Aside0.mk A120
                    clear A120
                    have H' := Aside0.mk H
                    clear H
                    try go_wp2
                    have n0_ := Aside0.mk (below_drew1 HB.out)
                    clear HB
                    have HB := n0_
                    clear n0_
                    have p753 : 0 ≤ (x14_1 : Int) := of_decide_eq_true (by first | (with_reducible assumption) | assumption)
                    have q753 : x14_1 < (l0.length : Int) := of_decide_eq_true (by first | (with_reducible assumption) | assumption)
                    obtain ⟨ad753, e753, hx753_0, hx753_1, hx753_2⟩ := at_T33 HR0.out x14_1 p753 q753
                    have hw753_2 := hx753_2
                    have hw753_1 := hx753_1
                    have hw753_0 := hx753_0
                    cases e753
                    replace hx753_0 := (HB.out.cell (World.block_lt_of_cell? w _ hx753_0)).trans hx753_0
                    replace hx753_1 := (HB.out.cell (World.block_lt_of_cell? w _ hx753_1)).trans hx753_1
                    replace hx753_2 := (HB.out.cell (World.block_lt_of_cell? w _ hx753_2)).trans hx753_2
                    replace p753 := eq_true p753
                    replace q753 := eq_true q753
                    have p754 : 0 ≤ (x14_1 : Int) := of_decide_eq_true (by first | (with_reducible assumption) | assumption)
                    have q754 : x14_1 < (l1.length : Int) := of_decide_eq_true (by first | (with_reducible assumption) | assumption)
                    obtain ⟨ad754, e754, hx754_0, hx754_1, hx754_2⟩ := at_T33 HR1.out x14_1 p754 q754
                    have hw754_2 := hx754_2
                    have hw754_1 := hx754_1
                    have hw754_0 := hx754_0
                    cases e754
                    replace hx754_0 := (HB.out.cell (World.block_lt_of_cell? w _ hx754_0)).trans hx754_0
                    replace hx754_1 := (HB.out.cell (World.block_lt_of_cell? w _ hx754_1)).trans hx754_1
                    replace hx754_2 := (HB.out.cell (World.block_lt_of_cell? w _ hx754_2)).trans hx754_2
                    replace p754 := eq_true p754
                    replace q754 := eq_true q754
                    refine start_ (n := 10) (S := fun w' => w'.cell? (ad753.add ((x14_1).toNat * 3)) = some (.int .i64 ((rd_T33 l0 x14_1).f0)) ∧ w'.cell? ⟨(ad753.add ((x14_1).toNat * 3)).block, (ad753.add ((x14_1).toNat * 3)).off + 1, none⟩ = some (.int .i64 ((rd_T33 l0 x14_1).f1)) ∧ w'.cell? ⟨(ad753.add ((x14_1).toNat * 3)).block, (ad753.add ((x14_1).toNat * 3)).off + 2, none⟩ = some (.string ((rd_T33 l0 x14_1).f2)) ∧ w'.cell? (ad754.add ((x14_1).toNat * 3)) = some (.int .i64 ((rd_T33 l1 x14_1).f0)) ∧ w'.cell? ⟨(ad754.add ((x14_1).toNat * 3)).block, (ad754.add ((x14_1).toNat * 3)).off + 1, none⟩ = some (.int .i64 ((rd_T33 l1 x14_1).f1)) ∧ w'.cell? ⟨(ad754.add ((x14_1).toNat * 3)).block, (ad754.add ((x14_1).toNat * 3)).off + 2, none⟩ = some (.string ((rd_T33 l1 x14_1).f2))) (ds := []) #[false, false, false, false, false, false, false, false, false, false] (by kernel_rfl) rfl rfl ⟨((HB.out.cell (World.block_lt_of_cell? w _ hw753_0)).trans hw753_0), ((HB.out.cell (World.block_lt_of_cell? w _ hw753_1)).trans hw753_1), ((HB.out.cell (World.block_lt_of_cell? w _ hw753_2)).trans hw753_2), ((HB.out.cell (World.block_lt_of_cell? w _ hw754_0)).trans hw754_0), ((HB.out.cell (World.block_lt_of_cell? w _ hw754_1)).trans hw754_1), ((HB.out.cell (World.block_lt_of_cell? w _ hw754_2)).trans hw754_2)⟩ (fun hHeld => ?_); refine with_tabW rows_order.tab5 rows_order.bits5 (fun HT_ HW_ => ?_)
                    generalize wr.drew = w13 at HB hx753_0 hx753_1 hx753_2 hx754_0 hx754_1 hx754_2 hHeld ⊢
                    refine pure_ (i := 0) (N := some 17) (v := ?_) (a' := ?_) #[true, false, false, false, false, false, false, false, false, false] rfl rfl (any_of HT_.out (by kernel_rfl)) (fun _ _ _ h => h) (Or.inl ⟨by rfl, ?_⟩) ?_ ?_
                    rotate_left
                    · intro w'
                      go_simp
                      with_reducible rfl
                    rotate_left
                    · simp only [Act.put, List.setIfInBounds_toArray, List.set_cons_zero, List.set_cons_succ, i64_w, i32_w]
                      rfl
                    refine pure_ (i := 1) (N := some 18) (v := ?_) (a' := ?_) #[true, true, false, false, false, false, false, false, false, false] rfl rfl (any_of HT_.out (by kernel_rfl)) (fun _ _ _ h => h) (Or.inl ⟨by rfl, ?_⟩) ?_ ?_
                    rotate_left
                    · intro w'
                      go_simp
                      with_reducible rfl
                    rotate_left
                    · simp only [Act.put, List.setIfInBounds_toArray, List.set_cons_zero, List.set_cons_succ, i64_w, i32_w]
                      rfl
                    refine pure_ (i := 2) (N := some 19) (v := ?_) (a' := ?_) #[true, true, true, false, false, false, false, false, false, false] rfl rfl (any_of HT_.out (by kernel_rfl)) (fun _ _ _ h => h) (Or.inl ⟨by rfl, ?_⟩) ?_ ?_
                    rotate_left
                    · intro w'
                      go_simp
                      with_reducible rfl
                    rotate_left
                    · simp only [Act.put, List.setIfInBounds_toArray, List.set_cons_zero, List.set_cons_succ, i64_w, i32_w]
                      rfl
                    refine pure_ (i := 4) (N := some 21) (v := ?_) (a' := ?_) #[true, true, true, false, true, false, false, false, false, false] rfl rfl (any_of HT_.out (by kernel_rfl)) (fun _ _ _ h => h) (Or.inl ⟨by rfl, ?_⟩) ?_ ?_
                    rotate_left
                    · intro w'
                      go_simp
                      with_reducible rfl
                    rotate_left
                    · simp only [Act.put, List.setIfInBounds_toArray, List.set_cons_zero, List.set_cons_succ, i64_w, i32_w]
                      rfl
                    refine pure_ (i := 5) (N := some 22) (v := ?_) (a' := ?_) #[true, true, true, false, true, true, false, false, false, false] rfl rfl (any_of HT_.out (by kernel_rfl)) (fun _ _ _ h => h) (Or.inl ⟨by rfl, ?_⟩) ?_ ?_
                    rotate_left
                    · intro w'
                      go_simp
                      with_reducible rfl
                    rotate_left
                    · simp only [Act.put, List.setIfInBounds_toArray, List.set_cons_zero, List.set_cons_succ, i64_w, i32_w]
                      rfl
                    refine pure_ (i := 6) (N := some 23) (v := ?_) (a' := ?_) #[true, true, true, false, true, true, true, false, false, false] rfl rfl (any_of HT_.out (by kernel_rfl)) (fun _ _ _ h => h) (Or.inl ⟨by rfl, ?_⟩) ?_ ?_
                    rotate_left
                    · intro w'
                      go_simp
                      with_reducible rfl
                    rotate_left
                    · simp only [Act.put, List.setIfInBounds_toArray, List.set_cons_zero, List.set_cons_succ, i64_w, i32_w]
                      rfl
                    refine take_ (i := 3) (N := some 20) (v := ?_) (a' := ?_) #[true, true, true, true, true, true, true, false, false, false] rfl rfl (take_ofW HT_.out HW_.out (by kernel_rfl)) (fun _ _ _ h => h) (Or.inl ⟨by rfl, ?_⟩) hHeld ?_ ?_
                    rotate_left
                    · rintro w' ⟨s0, s1, s2, s3, s4, s5⟩
                      go_simp
                      with_reducible rfl
                    rotate_left
                    · simp only [Act.put, List.setIfInBounds_toArray, List.set_cons_zero, List.set_cons_succ, i64_w, i32_w]
                      rfl
                    refine take_ (i := 7) (N := some 24) (v := ?_) (a' := ?_) #[true, true, true, true, true, true, true, true, false, false] rfl rfl (take_ofW HT_.out HW_.out (by kernel_rfl)) (fun _ _ _ h => h) (Or.inl ⟨by rfl, ?_⟩) hHeld ?_ ?_
                    rotate_left
                    · rintro w' ⟨s0, s1, s2, s3, s4, s5⟩
                      go_simp
                      with_reducible rfl
                    rotate_left
                    · simp only [Act.put, List.setIfInBounds_toArray, List.set_cons_zero, List.set_cons_succ, i64_w, i32_w]
                      rfl
                    refine one_ (i := 8) (N := some 25) #[true, true, true, true, true, true, true, true, true, false] rfl rfl (one_of HT_.out (by kernel_rfl)) (by decide) (fun K hK => ?_)
                    refine goes_ Try.func50 (by kernel_rfl) rfl #[.agg #[.int .i64 ((rd_T33 l0 x14_1).f0), .int .i64 ((rd_T33 l0 x14_1).f1), .string ((rd_T33 l0 x14_1).f2)], .agg #[.int .i64 ((rd_T33 l1 x14_1).f0), .int .i64 ((rd_T33 l1 x14_1).f1), .string ((rd_T33 l1 x14_1).f2)]] (by rfl) rfl rfl (by (try simp only [List.map_toArray, List.map_cons, List.map_nil]); first | done | rfl | (simp only [List.length_drop, List.length_take]; rfl)) ?_
                    with_reducible refine (value_Order.calls k1 ((rd_T33 l0 x14_1).f0) ((rd_T33 l0 x14_1).f1) ((rd_T33 l0 x14_1).f2) ((rd_T33 l1 x14_1).f0) ((rd_T33 l1 x14_1).f1) ((rd_T33 l1 x14_1).f2) t755 _ A12.out).mono ?_
                    rintro e w14 ⟨rfl, hb⟩
                    refine ⟨_, rfl, ?_⟩
                    have n0_ := Aside0.mk (below_step (by repeat (first | (with_reducible first | exact HB.out | apply below_alloc | apply pw_below_drewN | apply below_drew1) | exact HB.out)) hb)
                    clear HB
                    have HB := n0_
                    clear n0_
                    (try clear hb)
                    (try clear hb2)
                    (try clear hk)
                    (try clear hi)
                    refine hK.out _ _ ⟨((HB.out.cell (World.block_lt_of_cell? w _ hw753_0)).trans hw753_0), ((HB.out.cell (World.block_lt_of_cell? w _ hw753_1)).trans hw753_1), ((HB.out.cell (World.block_lt_of_cell? w _ hw753_2)).trans hw753_2), ((HB.out.cell (World.block_lt_of_cell? w _ hw754_0)).trans hw754_0), ((HB.out.cell (World.block_lt_of_cell? w _ hw754_1)).trans hw754_1), ((HB.out.cell (World.block_lt_of_cell? w _ hw754_2)).trans hw754_2)⟩ (fun hHeld => ?_)
                    clear hK K
                    refine norm_ (a' := ?_) ?_ ?_
                    rotate_left
                    · show Act.put _ (some 25) _ = _
                      simp only [Act.put, List.setIfInBounds_toArray, List.set_cons_zero, List.set_cons_succ, i64_w, i32_w]
                      rfl
                    refine pure_ (i := 9) (N := some 8) (v := ?_) (a' := ?_) #[true, true, true, true, true, true, true, true, true, true] rfl rfl (any_of HT_.out (by kernel_rfl)) (fun _ _ _ h => h) (Or.inl ⟨by rfl, ?_⟩) ?_ ?_
                    rotate_left
                    · intro w'
                      go_simp
                      with_reducible rfl
                    rotate_left
                    · simp only [Act.put, List.setIfInBounds_toArray, List.set_cons_zero, List.set_cons_succ, i64_w, i32_w]
                      rfl
                    refine done_ (done_of HT_.out (by kernel_rfl)) ?_
                    try go_wp2
                    go_meet
                    case rel => exact ⟨_, (t755), (by first | rfl | (simp; done) | (simp [*]; done)), H', ⟨by have := HK1.out; first | omega | exact Nat.le_refl _⟩, ⟨by repeat (first | (with_reducible first | exact HB.out | apply below_alloc | apply pw_below_drewN | apply below_drew1) | exact HB.out)⟩⟩
                  · rw [if_neg c11] at H
                    exact absurd H (by simp)
                · rw [if_neg c10] at H
                  exact absurd H (by simp)
              · rw [if_neg c9] at H
                exact absurd H (by simp)
        case rest =>
          clear HC6
          try clear c1
          try clear c2
          try clear p2
          try clear c5
          try clear c5b0
          try clear c7
          try clear c7b0
          try clear p7
          try clear q7
          try clear hx7
          try clear c8
          try clear c8b0
          try clear c9
          try clear c9b0
          try clear c10
          try clear c10b0
          try clear c11
          try clear c11b0
          try clear hx753_0
          try clear hx753_1
          try clear hx753_2
          try clear hx754_0
          try clear hx754_1
          try clear hx754_2
          try clear p2
          try clear p753
          try clear p754
          try clear q753
          try clear q754
          obtain ⟨kq, x8_5, rfl, HA, HJ5, HB⟩ := hcut
          cases kq with
          | zero => exact absurd HA.out (by simp [rows_order.j1])
          | succ kj5 =>
            have H := HA.out
            clear HA
            simp only [rows_order.j1] at H
            by_cases c15 : x8_5 = 0
            · rw [if_pos c15] at H
              have c15b0 : (x8_5 == 0) = true := beq_iff_eq.mpr c15
              have c15b1 : (x8_5 != 0) = false := bne_eq_false_iff_eq.mpr c15
              clear c15
              have H' := Aside0.mk H
              clear H
              go_wp2
              go_roundg kj5
              case measure => have := HK1.out; have := HJ5.out; omega
              case rel => exact ⟨(wrap64 (x14_1 + 1)), (by first | rfl | (simp; done) | (simp [*]; done)), H', ⟨by have := HK1.out; have := HJ5.out; omega⟩, ⟨by repeat (first | (with_reducible first | exact HB.out | apply below_alloc | apply pw_below_drewN | apply below_drew1) | exact HB.out)⟩⟩
            · rw [if_neg c15] at H
              have c15b0 : (x8_5 == 0) = false := beq_eq_false_iff_ne.mpr c15
              have c15b1 : (x8_5 != 0) = true := bne_iff_ne.mpr c15
              by_cases c16 : x14_1 < (l2.length : Int)
              · rw [if_pos c16] at H
                have c16b0 : decide (x14_1 < (l2.length : Int)) = true := decide_eq_true c16
                clear c16
                by_cases c17 : 0 ≤ x14_1
                · rw [if_pos c17] at H
                  have c17b0 : decide (0 ≤ x14_1) = true := decide_eq_true c17
                  clear c17
                  obtain ⟨bq18, hbq18⟩ : ∃ b_ : Bool, b_ = (rdOf false l2 x14_1) := ⟨_, rfl⟩
                  replace H : (if bq18 = true then (some (wrap64 (-x8_5))) else (some x8_5)) = some r := by rw [← hbq18] at H; exact H
                  have Nbq18 := Aside0.mk hbq18
                  clear hbq18
                  by_cases c19 : bq18 = true
                  · subst c19
                    have H1 : (some (wrap64 (-x8_5))) = some r := by rw [if_pos rfl] at H; exact H
                    clear H
                    have H := H1
                    clear H1
                    obtain rfl := Option.some.inj H
                    have p756 : 0 ≤ (x14_1 : Int) := of_decide_eq_true (by first | (with_reducible assumption) | assumption)
                    have q756 : x14_1 < (l2.length : Int) := of_decide_eq_true (by first | (with_reducible assumption) | assumption)
                    obtain ⟨ad756, e756, hx756_0⟩ := Kd.at_bool HR2.out x14_1 p756 q756
                    (try rw [← Nbq18.out] at hx756_0)
                    cases e756
                    replace hx756_0 := (HB.out.cell (World.block_lt_of_cell? w _ hx756_0)).trans hx756_0
                    replace p756 := eq_true p756
                    replace q756 := eq_true q756
                    go_wp2
                    go_ret
                    exact ⟨by first | rfl | (simp [errW_none, errW_some] <;> rfl) | (simp only [← hji4]; first | rfl | (simp [errW_none, errW_some] <;> rfl)) | (simp [*, errW_none, errW_some] <;> rfl), by repeat (first | (with_reducible first | exact HB.out | apply below_alloc | apply pw_below_drewN | apply below_drew1) | exact HB.out)⟩
                  · replace c19 := Bool.eq_false_iff.mpr c19
                    subst c19
                    have H1 : (some x8_5) = some r := by rw [if_neg (show ¬ (false = true) by decide)] at H; exact H
                    clear H
                    have H := H1
                    clear H1
                    obtain rfl := Option.some.inj H
                    have p756 : 0 ≤ (x14_1 : Int) := of_decide_eq_true (by first | (with_reducible assumption) | assumption)
                    have q756 : x14_1 < (l2.length : Int) := of_decide_eq_true (by first | (with_reducible assumption) | assumption)
                    obtain ⟨ad756, e756, hx756_0⟩ := Kd.at_bool HR2.out x14_1 p756 q756
                    (try rw [← Nbq18.out] at hx756_0)
                    cases e756
                    replace hx756_0 := (HB.out.cell (World.block_lt_of_cell? w _ hx756_0)).trans hx756_0
                    replace p756 := eq_true p756
                    replace q756 := eq_true q756
                    go_wp2
                    go_ret
                    exact ⟨by first | rfl | (simp [errW_none, errW_some] <;> rfl) | (simp only [← hji4]; first | rfl | (simp [errW_none, errW_some] <;> rfl)) | (simp [*, errW_none, errW_some] <;> rfl), by repeat (first | (with_reducible first | exact HB.out | apply below_alloc | apply pw_below_drewN | apply below_drew1) | exact HB.out)⟩
                · rw [if_neg c17] at H
                  exact absurd H (by simp)
              · rw [if_neg c16] at H
                have c16b0 : decide (x14_1 < (l2.length : Int)) = false := decide_eq_false c16
                clear c16
                obtain rfl := Option.some.inj H
                go_wp2
                go_ret
                exact ⟨by first | rfl | (simp [errW_none, errW_some] <;> rfl) | (simp only [← hji4]; first | rfl | (simp [errW_none, errW_some] <;> rfl)) | (simp [*, errW_none, errW_some] <;> rfl), by repeat (first | (with_reducible first | exact HB.out | apply below_alloc | apply pw_below_drewN | apply below_drew1) | exact HB.out)⟩
      · rw [if_neg c5] at H
        have c5b0 : decide (x14_1 < ji4) = false := decide_eq_false c5
        clear c5
        obtain rfl := Option.some.inj H
        go_wp2
        go_ret
        exact ⟨by first | rfl | (simp [errW_none, errW_some] <;> rfl) | (simp only [← hji4]; first | rfl | (simp [errW_none, errW_some] <;> rfl)) | (simp [*, errW_none, errW_some] <;> rfl), by repeat (first | (with_reducible first | exact HB.out | apply below_alloc | apply pw_below_drewN | apply below_drew1) | exact HB.out)⟩
end Go.Proofs.Ythghflgmeepnlaa.Pa
end
section
namespace Go.Proofs.Ythghflgmeepnlaa.Pa
open Go.RowKit Go.Proofs.YthghflgmeepnlaaW.PrintWords Go.Proofs.YthghflgmeepnlaaW.PrintLast Go.Proofs.YthghflgmeepnlaaW.PrintMore
set_option linter.unusedVariables false
set_option linter.unusedSimpArgs false
def cmpI (x y : Int) : Int := if x < y then -1 else if y < x then 1 else 0
/-- How two values stand. -/
def ordV (a0 a1 : Int) (a2 : ByteArray) (b0 b1 : Int) (b2 : ByteArray) : Int :=
  if cmpI a0 b0 ≠ 0 then cmpI a0 b0 else if cmpI a1 b1 ≠ 0 then cmpI a1 b1 else cmpS a2 b2
theorem compare_int (x y : Int) : cmp_Compare_int.f x y = some (cmpI x y) := by
  unfold cmp_Compare_int.f cmp_isNaN_int.f cmpI
  by_cases h1 : x < y
  · simp [h1]
  · by_cases h2 : y < x
    · simp [h1, h2]
    · simp [h1, h2]
theorem or_three (k : Nat) (x y z : Int) : cmp_Or_int.f (k + 4) [x, y, z] = some (if x ≠ 0 then x else if y ≠ 0 then y else z) := by
  unfold cmp_Or_int.f
  have w1 : wrap64 1 = 1 := by unfold wrap64; omega
  have w2 : wrap64 2 = 2 := by unfold wrap64; omega
  have w3 : wrap64 3 = 3 := by unfold wrap64; omega
  by_cases hx : x = 0
  · by_cases hy : y = 0
    · by_cases hz : z = 0 <;> simp [cmp_Or_int.l0, rd, w1, w2, w3, hx, hy, hz]
    · simp [cmp_Or_int.l0, rd, w1, w2, w3, hx, hy]
  · simp [cmp_Or_int.l0, rd, hx]
theorem order_is (k : Nat) (a0 a1 : Int) (a2 : ByteArray) (b0 b1 : Int) (b2 : ByteArray) : value_Order.f (k + 4) a0 a1 a2 b0 b1 b2 = some (ordV a0 a1 a2 b0 b1 b2) := by
  unfold value_Order.f
  simp only [compare_int, cmp_Compare_string.f, Option.bind_some, or_three, ordV]
end Go.Proofs.Ythghflgmeepnlaa.Pa
end
section
namespace Go.Proofs.Ythghflgmeepnlaa.Pa
open Go.RowKit Go.Proofs.YthghflgmeepnlaaW.PrintWords
set_option linter.unusedVariables false
set_option linter.unusedSimpArgs false
/-- A comparison that is a total order up to E. -/
structure Lin {α : Type} (c : α → α → Int) (E : α → α → Prop) : Prop where
  sg : ∀ x y, c x y = -1 ∨ c x y = 0 ∨ c x y = 1
  anti : ∀ x y, c x y = - c y x
  zero : ∀ x y, c x y = 0 ↔ E x y
  trans : ∀ x y z, c x y ≤ 0 → c y z ≤ 0 → c x z ≤ 0
namespace Lin
variable {α : Type} {c : α → α → Int} {E : α → α → Prop}
theorem strict (h : Lin c E) {x y z : α} (h1 : c x y < 0) (h2 : c y z ≤ 0) : c x z < 0 := by
  have h3 := h.trans x y z (by omega) h2
  rcases Int.lt_or_eq_of_le h3 with h4 | h4
  · exact h4
  · have h5 := h.anti x z
    have h6 := h.trans y z x h2 (by omega)
    have := h.anti x y
    omega
theorem strict' (h : Lin c E) {x y z : α} (h1 : c x y ≤ 0) (h2 : c y z < 0) : c x z < 0 := by
  have h3 := h.trans x y z h1 (by omega)
  rcases Int.lt_or_eq_of_le h3 with h4 | h4
  · exact h4
  · have h5 := h.anti x z
    have h6 := h.trans z x y (by omega) h1
    have := h.anti y z
    omega
/-- One comparison behind another one. -/
theorem lex {β : Type} {d : α → α → Int} {F : α → α → Prop} (h : Lin c E) (k : Lin d F) : Lin (fun x y => if c x y ≠ 0 then c x y else d x y) (fun x y => E x y ∧ F x y) where
  sg x y := by
    by_cases e : c x y ≠ 0
    · rw [if_pos e]; exact h.sg x y
    · rw [if_neg e]; exact k.sg x y
  anti x y := by
    have h1 := h.anti x y
    have h2 := k.anti x y
    by_cases e : c x y = 0
    · rw [if_neg (by simp [e]), if_neg (by simp; omega)]; exact h2
    · rw [if_pos e, if_pos (by omega)]; exact h1
  zero x y := by
    rw [← h.zero, ← k.zero]
    by_cases e : c x y = 0
    · simp [e]
    · simp [e]
  trans x y z := by
    intro h1 h2
    by_cases e1 : c x y = 0
    · rw [if_neg (by simp [e1])] at h1
      by_cases e2 : c y z = 0
      · rw [if_neg (by simp [e2])] at h2
        have a := h.trans x y z (by omega) (by omega)
        have b := h.trans z y x (by have := h.anti z y; omega) (by have := h.anti y x; omega)
        have := h.anti x z
        rw [if_neg (by simp; omega)]
        exact k.trans x y z h1 h2
      · rw [if_pos e2] at h2
        have a := h.strict' (x := x) (y := y) (z := z) (by omega) (by omega)
        rw [if_pos (by omega)]
        omega
    · rw [if_pos e1] at h1
      have h2' : c y z ≤ 0 := by
        by_cases e2 : c y z = 0
        · omega
        · rw [if_pos e2] at h2; exact h2
      have a := h.strict (x := x) (y := y) (z := z) (by omega) h2'
      rw [if_pos (by omega)]
      omega
theorem on {β : Type} (h : Lin c E) (f : β → α) : Lin (fun x y => c (f x) (f y)) (fun x y => E (f x) (f y)) where
  sg _ _ := h.sg _ _
  anti _ _ := h.anti _ _
  zero _ _ := h.zero _ _
  trans _ _ _ := h.trans _ _ _
end Lin
theorem lin_int : Lin cmpI (fun x y => x = y) where
  sg x y := by
    unfold cmpI
    split
    · simp
    · split <;> simp
  anti x y := by
    unfold cmpI
    by_cases h1 : x < y
    · rw [if_pos h1, if_neg (by omega), if_pos h1]
    · rw [if_neg h1]
      by_cases h2 : y < x
      · rw [if_pos h2, if_pos h2]; rfl
      · rw [if_neg h2, if_neg h2, if_neg h1]; rfl
  zero x y := by
    unfold cmpI
    split
    · simp; omega
    · split
      · simp; omega
      · simp; omega
  trans x y z := by
    unfold cmpI
    intro h1 h2
    by_cases a : x < z
    · simp [a]
    · rw [if_neg a]
      by_cases b : z < x
      · exfalso
        have e1 : ¬ y < x := by intro h; rw [if_neg (by omega), if_pos h] at h1; omega
        have e2 : ¬ z < y := by intro h; rw [if_neg (by omega), if_pos h] at h2; omega
        omega
      · simp [b]
theorem bl_cons (a b : UInt8) (x y : List UInt8) : Op.bytesLess (a :: x) (b :: y) = true ↔ a.toNat < b.toNat ∨ (a = b ∧ Op.bytesLess x y = true) := by
  simp [Op.bytesLess, UInt8.lt_iff_toNat_lt]
theorem bl_nil (x : List UInt8) : Op.bytesLess x [] = false := by cases x <;> rfl
theorem u8_eq {a b : UInt8} (h : a.toNat = b.toNat) : a = b := UInt8.toNat_inj.1 h
theorem bl_tri (x : List UInt8) : ∀ y, Op.bytesLess x y = true ∨ x = y ∨ Op.bytesLess y x = true := by
  induction x with
  | nil => intro y; cases y <;> simp [Op.bytesLess]
  | cons a x ih =>
    intro y
    cases y with
    | nil => simp [Op.bytesLess]
    | cons b y =>
      rw [bl_cons, bl_cons]
      rcases Nat.lt_trichotomy a.toNat b.toNat with h | h | h
      · exact .inl (.inl h)
      · have e := u8_eq h
        subst e
        rcases ih y with h1 | h1 | h1
        · exact .inl (.inr ⟨rfl, h1⟩)
        · exact .inr (.inl (by rw [h1]))
        · exact .inr (.inr (.inr ⟨rfl, h1⟩))
      · exact .inr (.inr (.inl h))
theorem bl_trans (x : List UInt8) : ∀ y z, Op.bytesLess x y = true → Op.bytesLess y z = true → Op.bytesLess x z = true := by
  induction x with
  | nil =>
    intro y z h1 h2
    cases z with
    | nil => rw [bl_nil] at h2; cases h2
    | cons c z => rfl
  | cons a x ih =>
    intro y z h1 h2
    cases y with
    | nil => rw [bl_nil] at h1; cases h1
    | cons b y =>
      cases z with
      | nil => rw [bl_nil] at h2; cases h2
      | cons c z =>
        rw [bl_cons] at h1 h2 ⊢
        rcases h1 with h1 | ⟨rfl, h1⟩
        · rcases h2 with h2 | ⟨rfl, h2⟩
          · exact .inl (by omega)
          · exact .inl h1
        · rcases h2 with h2 | ⟨rfl, h2⟩
          · exact .inl h2
          · exact .inr ⟨rfl, ih _ _ h1 h2⟩
theorem bl_asymm {x y : List UInt8} (h : Op.bytesLess x y = true) : Op.bytesLess y x = false := by
  cases e : Op.bytesLess y x with
  | false => rfl
  | true => have := bl_trans _ _ _ h e; rw [less_irrefl] at this; cases this
/-- How two byte strings stand. -/
def cmpB (a b : List UInt8) : Int := if Op.bytesLess a b = true then -1 else if a = b then 0 else 1
theorem lin_bytes : Lin cmpB (fun x y => x = y) where
  sg x y := by
    unfold cmpB
    split
    · simp
    · split <;> simp
  anti x y := by
    unfold cmpB
    rcases bl_tri x y with h | rfl | h
    · rw [if_pos h, if_neg (by simp [bl_asymm h]), if_neg (by rintro rfl; rw [less_irrefl] at h; cases h)]
    · simp [less_irrefl]
    · rw [if_neg (by simp [bl_asymm h]), if_neg (by rintro rfl; rw [less_irrefl] at h; cases h), if_pos h]; rfl
  zero x y := by
    unfold cmpB
    by_cases h : Op.bytesLess x y = true
    · rw [if_pos h]
      constructor
      · intro e; cases e
      · rintro rfl; rw [less_irrefl] at h; cases h
    · rw [if_neg h]
      split <;> simp_all
  trans x y z := by
    intro h1 h2
    have e : ∀ {a b : List UInt8}, cmpB a b ≤ 0 ↔ Op.bytesLess a b = true ∨ a = b := by
      intro a b
      unfold cmpB
      by_cases h : Op.bytesLess a b = true
      · simp [h]
      · rw [if_neg h]
        simp only [h, false_or]
        split <;> simp_all
    rw [e] at h1 h2 ⊢
    rcases h1 with h1 | rfl
    · rcases h2 with h2 | rfl
      · exact .inl (bl_trans _ _ _ h1 h2)
      · exact .inl h1
    · exact h2
theorem cmpS_is (a b : ByteArray) : cmpS a b = cmpB a.toList b.toList := rfl
/-- Two values are the same. -/
def sameV (x y : S33) : Prop := x.f0 = y.f0 ∧ x.f1 = y.f1 ∧ x.f2.toList = y.f2.toList
def ordS (x y : S33) : Int := ordV x.f0 x.f1 x.f2 y.f0 y.f1 y.f2
theorem lin_val : Lin ordS sameV := by
  have h := ((lin_int.on (fun x : S33 => x.f0)).lex (β := S33) ((lin_int.on (fun x : S33 => x.f1)).lex (β := S33) (lin_bytes.on (fun x : S33 => x.f2.toList))))
  exact h
end Go.Proofs.Ythghflgmeepnlaa.Pa
end
section
namespace Go.Proofs.Ythghflgmeepnlaa.Pa
open Go.RowKit Go.Proofs.YthghflgmeepnlaaW.PrintWords Go.Proofs.YthghflgmeepnlaaW.PrintLast Go.Proofs.YthghflgmeepnlaaW.PrintMore
set_option linter.unusedVariables false
set_option linter.unusedSimpArgs false
def ordL : List S33 → List S33 → Int
  | [], [] => 0
  | [], _ :: _ => -1
  | _ :: _, [] => 1
  | x :: xs, y :: ys => if ordS x y = 0 then ordL xs ys else ordS x y
theorem drop_rd (l : List S33) (i : Nat) (h : i < l.length) : l.drop i = rd_T33 l i :: l.drop (i + 1) := by
  rw [List.drop_eq_getElem_cons h]
  simp [rd_T33, List.getD, h]
theorem ordL_step (l0 l1 : List S33) (i : Nat) (h0 : i < l0.length) (h1 : i < l1.length) :
    ordL (l0.drop i) (l1.drop i) = if ordS (rd_T33 l0 i) (rd_T33 l1 i) = 0 then ordL (l0.drop (i + 1)) (l1.drop (i + 1)) else ordS (rd_T33 l0 i) (rd_T33 l1 i) := by
  rw [drop_rd l0 i h0, drop_rd l1 i h1]; rfl
theorem ordL_more (l0 l1 : List S33) (i : Nat) (h0 : i < l0.length) (h1 : ¬ i < l1.length) : ordL (l0.drop i) (l1.drop i) = 1 := by
  rw [drop_rd l0 i h0, show l1.drop i = [] from List.drop_eq_nil_of_le (by omega)]; rfl
theorem ordL_less (l0 l1 : List S33) (i : Nat) (h0 : ¬ i < l0.length) (h1 : i < l1.length) : ordL (l0.drop i) (l1.drop i) = -1 := by
  rw [drop_rd l1 i h1, show l0.drop i = [] from List.drop_eq_nil_of_le (by omega)]; rfl
theorem ordL_end (l0 l1 : List S33) (i : Nat) (h0 : ¬ i < l0.length) (h1 : ¬ i < l1.length) : ordL (l0.drop i) (l1.drop i) = 0 := by
  rw [List.drop_eq_nil_of_le (by omega), List.drop_eq_nil_of_le (by omega)]; rfl
end Go.Proofs.Ythghflgmeepnlaa.Pa
end
section
namespace Go.Proofs.Ythghflgmeepnlaa.Pa
open Go.RowKit Go.Proofs.YthghflgmeepnlaaW.PrintWords Go.Proofs.YthghflgmeepnlaaW.PrintLast Go.Proofs.YthghflgmeepnlaaW.PrintMore
set_option linter.unusedVariables false
set_option linter.unusedSimpArgs false
/-- A place's order, turned if its mark says so. -/
def sgD (d : List Bool) (n : Int) : Int := if d.headD false = true then -n else n
/-- How two keys stand, each place as its mark says. -/
def ordD : List S33 → List S33 → List Bool → Int
  | [], [], _ => 0
  | [], _ :: _, d => sgD d (-1)
  | _ :: _, [], d => sgD d 1
  | x :: xs, y :: ys, d => if ordS x y = 0 then ordD xs ys d.tail else sgD d (ordS x y)
theorem order_tail (x0 x1 : List S33) (x2 : List Bool) (i : Nat) (n : Int) (mxl : Int) (hn : n = 0 ∨ n = 1 ∨ n = -1) (hn0 : n ≠ 0) (hl : x2.length ≤ maxLen) (k : Nat) (j : Int) :
    rows_order.j1 (k + 1) x0 x1 x2 (i : Int) n mxl j = some (sgD (x2.drop i) n) := by
  unfold rows_order.j1 sgD
  rw [if_neg hn0]
  by_cases h : (i : Int) < (x2.length : Int)
  · rw [if_pos h, if_pos (by omega)]
    have hi : i < x2.length := by omega
    have e : rdOf false x2 (i : Int) = (x2.drop i).headD false := by
      unfold rdOf
      rw [List.drop_eq_getElem_cons hi]
      simp [List.getD_eq_getElem?_getD, List.getElem?_eq_getElem hi]
    rw [e]
    have hw : wrap64 (-n) = -n := by unfold wrap64; omega
    rw [hw]
    split <;> rfl
  · rw [if_neg h, List.drop_eq_nil_of_le (by omega)]
    rfl
theorem order_l0 (x0 x1 : List S33) (x2 : List Bool) (h0 : x0.length < 1000000000) (h1 : x1.length < 1000000000) (hl : x2.length ≤ maxLen) (m : Int) (hm : m = mx (x0.length : Int) (x1.length : Int)) :
    ∀ (d i k : Nat), (i : Int) + d = m → rows_order.l0 (2 * d + 8 + k) x0 x1 x2 m (i : Int) = some (ordD (x0.drop i) (x1.drop i) (x2.drop i)) := by
  have hmx : (x0.length : Int) ≤ m ∧ (x1.length : Int) ≤ m ∧ (m = x0.length ∨ m = x1.length) := by rw [hm]; unfold mx; split <;> omega
  intro d
  induction d with
  | zero =>
    intro i k hi
    rw [show 2 * 0 + 8 + k = (k + 7) + 1 by omega]
    unfold rows_order.l0
    rw [if_neg (by omega), List.drop_eq_nil_of_le (by omega), List.drop_eq_nil_of_le (by omega)]
    rfl
  | succ d ih =>
    intro i k hi
    rw [show 2 * (d + 1) + 8 + k = ((2 * d + 8 + k) + 1) + 1 by omega]
    unfold rows_order.l0
    rw [if_pos (by omega)]
    by_cases c0 : (i : Int) ≥ (x0.length : Int)
    · rw [if_pos c0, order_tail x0 x1 x2 i (-1) m (by omega) (by omega) hl]
      have : i < x1.length := by omega
      rw [show x0.drop i = [] from List.drop_eq_nil_of_le (by omega), List.drop_eq_getElem_cons this]
      rfl
    · rw [if_neg c0]
      have hi0 : i < x0.length := by omega
      by_cases c1 : (i : Int) ≥ (x1.length : Int)
      · rw [if_pos c1, order_tail x0 x1 x2 i 1 m (by omega) (by omega) hl]
        rw [show x1.drop i = [] from List.drop_eq_nil_of_le (by omega), List.drop_eq_getElem_cons hi0]
        rfl
      · rw [if_neg c1, if_pos (by omega), if_pos (by omega), if_pos (by omega)]
        have hi1 : i < x1.length := by omega
        rw [show 2 * d + 8 + k + 1 = (2 * d + 8 + k - 3) + 4 by omega, order_is, Option.bind_some]
        rw [List.drop_eq_getElem_cons hi0, List.drop_eq_getElem_cons hi1]
        have e0 : rd_T33 x0 (i : Int) = x0[i] := by unfold rd_T33; simp [List.getD_eq_getElem?_getD, List.getElem?_eq_getElem hi0]
        have e1 : rd_T33 x1 (i : Int) = x1[i] := by unfold rd_T33; simp [List.getD_eq_getElem?_getD, List.getElem?_eq_getElem hi1]
        rw [e0, e1]
        show rows_order.j1 _ x0 x1 x2 (i : Int) (ordS x0[i] x1[i]) m (i : Int) = _
        unfold ordD
        have hsg := lin_val.sg x0[i] x1[i]
        by_cases c2 : ordS x0[i] x1[i] = 0
        · rw [if_pos c2, c2]
          rw [show 2 * d + 8 + k - 3 + 4 = (2 * d + 8 + k) + 1 by omega]
          unfold rows_order.j1
          rw [if_pos rfl, show wrap64 ((i : Int) + 1) = ((i + 1 : Nat) : Int) by unfold wrap64; omega]
          rw [ih (i + 1) k (by omega), List.tail_drop]
        · rw [if_neg c2, show 2 * d + 8 + k - 3 + 4 = (2 * d + 8 + k) + 1 by omega]
          exact order_tail x0 x1 x2 i _ m (by omega) c2 hl _ _
theorem rorderD (x0 x1 : List S33) (x2 : List Bool) (h0 : x0.length < 1000000000) (h1 : x1.length < 1000000000) (hl : x2.length ≤ maxLen) : ∃ k, rows_order.f k x0 x1 x2 = some (ordD x0 x1 x2) := by
  refine ⟨2 * (mx (x0.length : Int) (x1.length : Int)).toNat + 8 + 0, ?_⟩
  unfold rows_order.f
  have := order_l0 x0 x1 x2 h0 h1 hl _ rfl (mx (x0.length : Int) (x1.length : Int)).toNat 0 0 (by unfold mx; split <;> omega)
  simpa using this
/-- rows.order's contract. -/
theorem rows_order_calls (A0 : Option Addr) (c0 : Nat) (l0 : List (S33)) (A1 : Option Addr) (c1 : Nat) (l1 : List (S33)) (A2 : Option Addr) (c2 : Nat) (l2 : List Bool) (w : World) (hr0 : Kd.C k33 w A0 l0.length l0) (hc0 : l0.length ≤ c0) (hr1 : Kd.C k33 w A1 l1.length l1) (hc1 : l1.length ≤ c1) (hr2 : Kd.C Kd.bool w A2 l2.length l2) (hc2 : l2.length ≤ c2)
    (h0 : l0.length < 1000000000) (h1 : l1.length < 1000000000) (hl : l2.length ≤ maxLen) :
    Calls Try.prog 96 #[.slice A0 l0.length c0, .slice A1 l1.length c1, .slice A2 l2.length c2] w fun e w' => e = .returned (.int .i64 (ordD l0 l1 l2)) ∧ Below w.heap.size w w' := by
  obtain ⟨k, hk⟩ := rorderD l0 l1 l2 h0 h1 hl
  exact rows_order.calls k A0 c0 l0 A1 c1 l1 A2 c2 l2 _ w hr0 hc0 hr1 hc1 hr2 hc2 hk
end Go.Proofs.Ythghflgmeepnlaa.Pa
end
section
namespace Go.Proofs.Ythghflgmeepnlaa.Pa
open Go.RowKit Go.Proofs.YthghflgmeepnlaaW.PrintWords Go.Proofs.YthghflgmeepnlaaW.PrintLast Go.Proofs.YthghflgmeepnlaaW.PrintMore
set_option linter.unusedVariables false
set_option linter.unusedSimpArgs false
/-- A place's key. -/
def keyL (keys : List (List S33)) (i : Nat) : List S33 := keys.getD i []
theorem keyL_rd (keys : List (List S33)) (i : Nat) : rd_L4 keys (i : Int) = keyL keys i := by unfold rd_L4 keyL; simp
set_option maxHeartbeats 4000000 in
set_option maxRecDepth 100000 in
theorem key_calls (i kb : Nat) (Ak : Option Addr) (ck : Nat) (keys : List (List S33)) (w : World) (hbox : w.cell? ⟨kb, 0, none⟩ = some (.slice Ak keys.length ck)) (hk : Kd.C (Kd.slice 33 k33) w Ak keys.length keys) :
    ∃ A c, (keyL keys i).length ≤ c ∧ Kd.C k33 w A (keyL keys i).length (keyL keys i) ∧ ∀ W, Below w.heap.size w W → Calls Try.prog 93 #[enN i, .pointer (some ⟨kb, 0, none⟩)] W fun e w' => e = .returned (.slice A (keyL keys i).length c) ∧ Below W.heap.size W w' := by
  by_cases c1 : (i : Int) < (keys.length : Int)
  · have c1b : decide ((i : Int) < (keys.length : Int)) = true := decide_eq_true c1
    have c2b : decide ((0 : Int) ≤ i) = true := decide_eq_true (by omega)
    have p0 : (0 : Int) ≤ i := by omega
    obtain ⟨ad, A1, c, e1, hx1, hl1, hi1⟩ := at_L4 hk (i : Int) p0 c1
    cases e1
    rw [keyL_rd] at hx1 hl1 hi1
    simp only [Int.toNat_natCast] at hx1
    refine ⟨A1, c, hl1, hi1, fun W hW => ?_⟩
    have hx2 := pw_cell_below hW hx1
    have hb2 := pw_cell_below hW hbox
    have HB := Aside0.mk (Below.refl W.heap.size W)
    clear hx1 hbox hi1 hl1 hk hW
    go_enter Try.func93, Try.ntmps93
    go_wp2
    go_ret
    exact ⟨rfl, HB.out⟩
  · have c1b : decide ((i : Int) < (keys.length : Int)) = false := decide_eq_false c1
    have e0 : keyL keys i = [] := by unfold keyL; rw [List.getD_eq_getElem?_getD, List.getElem?_eq_none (by omega)]; rfl
    rw [e0]
    refine ⟨none, 0, Nat.le_refl _, ?_, fun W hW => ?_⟩
    · exact ⟨rfl, by simp, fun h => absurd h (by simp)⟩
    have hb2 := pw_cell_below hW hbox
    have HB := Aside0.mk (Below.refl W.heap.size W)
    clear hbox hk hW e0
    go_enter Try.func93, Try.ntmps93
    go_wp2
    go_ret
    exact ⟨rfl, HB.out⟩
set_option maxHeartbeats 8000000 in
set_option maxRecDepth 1000000 in
theorem cmp_calls (i j fb kb db : Nat) (Ak : Option Addr) (ck : Nat) (keys : List (List S33)) (Ad : Option Addr) (cd : Nat) (desc : List Bool) (w : World)
    (hf : w.cell? ⟨fb, 0, none⟩ = some (.func (.func 93) #[] #[.pointer (some ⟨kb, 0, none⟩)]))
    (hbox : w.cell? ⟨kb, 0, none⟩ = some (.slice Ak keys.length ck)) (hd : w.cell? ⟨db, 0, none⟩ = some (.slice Ad desc.length cd))
    (hk : Kd.C (Kd.slice 33 k33) w Ak keys.length keys) (hdc : Kd.C Kd.bool w Ad desc.length desc) (hdl : desc.length ≤ cd) (hkl : ∀ r ∈ keys, r.length < 1000000000) (hdn : desc.length ≤ maxLen) :
    Calls Try.prog 95 #[enN i, enN j, .pointer (some ⟨fb, 0, none⟩), .pointer (some ⟨db, 0, none⟩)] w fun e w' => e = .returned (.int .i64 (ordD (keyL keys i) (keyL keys j) desc)) ∧ Below w.heap.size w w' := by
  have hki : ∀ i, (keyL keys i).length < 1000000000 := fun i => by
    unfold keyL
    by_cases h : i < keys.length
    · rw [List.getD_eq_getElem?_getD, List.getElem?_eq_getElem h]; exact hkl _ (List.getElem_mem h)
    · rw [List.getD_eq_getElem?_getD, List.getElem?_eq_none (by omega)]; simp
  obtain ⟨Ai, ci, hli, hci, hi⟩ := key_calls i kb Ak ck keys w hbox hk
  obtain ⟨Aj, cj, hlj, hcj, hj⟩ := key_calls j kb Ak ck keys w hbox hk
  have HO := Aside0.mk (fun W (hW : Below w.heap.size w W) => rows_order_calls Ai ci (keyL keys i) Aj cj (keyL keys j) Ad cd desc W (Kd.C_below hci hW) hli (Kd.C_below hcj hW) hlj (Kd.C_below hdc hW) hdl (hki i) (hki j) hdn)
  have HB := Aside0.mk (Below.refl w.heap.size w)
  have HI := Aside0.mk hi
  have HJ := Aside0.mk hj
  clear hk hdc hbox hdl hkl hki hdn hli hci hi hlj hcj hj
  obtain ⟨ri, hri⟩ : ∃ r, r = keyL keys i := ⟨_, rfl⟩
  obtain ⟨rj, hrj⟩ : ∃ r, r = keyL keys j := ⟨_, rfl⟩
  rw [← hri] at HI
  rw [← hrj] at HJ
  rw [← hri, ← hrj] at HO ⊢
  clear hri hrj
  go_enter Try.func95, Try.ntmps95
  go_wp2_with fail
  go_region_held3 (fun w' => w'.cell? ⟨fb, 0, none⟩ = some (.func (.func 93) #[] #[.pointer (some ⟨kb, 0, none⟩)]) ∧ w'.cell? ⟨db, 0, none⟩ = some (.slice Ad desc.length cd))
    (first | go_keep | (refine ⟨?_, ?_⟩ <;> refine pw_cell_below hbl ?_ <;> first | assumption | (simp only [*]; done)))
    (first
      | (go_at_call 96; refine (HO.out _ (by first | exact HB.out | exact below_drew1 HB.out)).mono ?_; rintro e w' ⟨rfl, hbl⟩; have n0_ := Aside0.mk (below_step (by first | exact HB.out | exact below_drew1 HB.out) hbl); clear HB; have HB := n0_; clear n0_)
      | (go_at_call_of 93 i; refine (HI.out _ (by first | exact HB.out | exact below_drew1 HB.out)).mono ?_; rintro e w' ⟨rfl, hbl⟩; have n0_ := Aside0.mk (below_step (by first | exact HB.out | exact below_drew1 HB.out) hbl); clear HB; have HB := n0_; clear n0_)
      | (go_at_call_of 93 j; refine (HJ.out _ (by first | exact HB.out | exact below_drew1 HB.out)).mono ?_; rintro e w' ⟨rfl, hbl⟩; have n0_ := Aside0.mk (below_step (by first | exact HB.out | exact below_drew1 HB.out) hbl); clear HB; have HB := n0_; clear n0_))
  go_wp2
  go_ret
  exact ⟨rfl, HB.out⟩
end Go.Proofs.Ythghflgmeepnlaa.Pa
end
section
namespace Go.Proofs.Ythghflgmeepnlaa.Pa
set_option linter.unusedVariables false
set_option linter.unusedSimpArgs false
theorem sgD_neg (d : List Bool) (n : Int) : sgD d (-n) = - sgD d n := by unfold sgD; split <;> simp
theorem sgD_cases (d : List Bool) : (∀ n, sgD d n = n) ∨ (∀ n, sgD d n = -n) := by
  unfold sgD
  by_cases h : d.headD false = true
  · right; intro n; rw [if_pos h]
  · left; intro n; rw [if_neg h]
theorem ordS_left {x y z : S33} (h : ordS x y = 0) : ordS x z = ordS y z := by
  have L := lin_val
  have a1 := L.anti x y
  have a2 := L.anti y z
  have a3 := L.anti x z
  rcases L.sg y z with r | r | r
  · have := L.strict' (x := x) (y := y) (z := z) (by omega) (by omega)
    rcases L.sg x z with t | t | t <;> omega
  · have t1 := L.trans x y z (by omega) (by omega)
    have t2 := L.trans z y x (by omega) (by omega)
    omega
  · have := L.strict (x := z) (y := y) (z := x) (by omega) (by omega)
    rcases L.sg x z with t | t | t <;> omega
theorem ordS_right {x y z : S33} (h : ordS y z = 0) : ordS x z = ordS x y := by
  have L := lin_val
  have a1 := L.anti y z
  have h1 : ordS z x = ordS y x := ordS_left (by omega)
  have a2 := L.anti z x
  have a3 := L.anti y x
  have a4 := L.anti x z
  have a5 := L.anti x y
  omega
theorem ordD_anti : ∀ (a b : List S33) (d : List Bool), ordD a b d = - ordD b a d
  | [], [], d => by simp [ordD]
  | [], y :: b, d => by unfold ordD; rw [sgD_neg]
  | x :: a, [], d => by unfold ordD; rw [sgD_neg]; simp
  | x :: a, y :: b, d => by
    unfold ordD
    have h := lin_val.anti x y
    by_cases c : ordS x y = 0
    · rw [if_pos c, if_pos (by omega), ordD_anti a b d.tail]
    · rw [if_neg c, if_neg (by omega), h, sgD_neg]
theorem ordD_trans : ∀ (a b c : List S33) (d : List Bool), ordD a b d ≤ 0 → ordD b c d ≤ 0 → ordD a c d ≤ 0
  | [], _, [], d, _, _ => by simp [ordD]
  | [], [], z :: c, d, _, h2 => h2
  | [], y :: b, z :: c, d, h1, _ => by unfold ordD at h1 ⊢; exact h1
  | x :: a, [], [], d, h1, _ => h1
  | x :: a, y :: b, [], d, _, h2 => by unfold ordD at h2 ⊢; exact h2
  | x :: a, [], z :: c, d, h1, h2 => by
    unfold ordD at h1 h2
    rw [sgD_neg] at h2
    rcases sgD_cases d with s | s <;> (rw [s] at h1 h2; omega)
  | x :: a, y :: b, z :: c, d, h1, h2 => by
    unfold ordD at h1 h2 ⊢
    have L := lin_val
    by_cases q : ordS x y = 0
    · rw [if_pos q] at h1
      rw [ordS_left q]
      by_cases r : ordS y z = 0
      · rw [if_pos r] at h2 ⊢
        exact ordD_trans a b c d.tail h1 h2
      · rw [if_neg r] at h2 ⊢
        exact h2
    · rw [if_neg q] at h1
      by_cases r : ordS y z = 0
      · rw [ordS_right r, if_neg q]
        exact h1
      · rw [if_neg r] at h2
        have g1 := L.sg x y
        have g2 := L.sg y z
        have g3 := L.sg x z
        rcases sgD_cases d with s | s
        · rw [s] at h1 h2
          have := L.strict (x := x) (y := y) (z := z) (by omega) (by omega)
          rw [if_neg (by omega), s]; omega
        · rw [s] at h1 h2
          have a1 := L.anti x y
          have a2 := L.anti y z
          have a3 := L.anti x z
          have := L.strict (x := z) (y := y) (z := x) (by omega) (by omega)
          rw [if_neg (by omega), s]; omega
theorem ordP_keys (keys : List (List S33)) (desc : List Bool) : OrdP (fun i j => ordD (keyL keys i) (keyL keys j) desc) :=
  ⟨fun x y => ordD_anti _ _ _, fun x y z => ordD_trans _ _ _ _⟩
end Go.Proofs.Ythghflgmeepnlaa.Pa
end
section
namespace Go.Proofs.Ythghflgmeepnlaa.Pa
open Go.RowKit Go.Proofs.YthghflgmeepnlaaW.PrintWords Go.Proofs.YthghflgmeepnlaaW.PrintLast Go.Proofs.YthghflgmeepnlaaW.PrintMore
attribute [local go_sem] max2_int max_two
set_option linter.unusedVariables false
set_option linter.unusedSimpArgs false
def cordonref01_ints.f (a0 : Int) (a1 : Int) : Option (Int) := if a0 < a1 then (some (-1)) else (if a0 > a1 then (some 1) else (some 0))
set_option maxHeartbeats 8000000 in
set_option maxRecDepth 100000 in
theorem cordonref01_ints.calls (a0 : Int) (a1 : Int) (r : Int) (w : World) (h : cordonref01_ints.f a0 a1 = some r) :
    Calls Try.prog 108 #[.int .i64 a0, .int .i64 a1] w fun e w' => e = .returned (.int .i64 r) ∧ Drawn0 w w' := by
  have H : (if a0 < a1 then (some (-1)) else (if a0 > a1 then (some 1) else (some 0))) = some r := h
  clear h
  by_cases c3 : a0 < a1
  · rw [if_pos c3] at H
    have c3b0 : decide (a0 < a1) = true := decide_eq_true c3
    clear c3
    obtain rfl := Option.some.inj H
    go_enter Try.func108, Try.ntmps108
    go_wp2
    go_ret
    exact ⟨by first | rfl | (simp; done) | (simp [*]; done), by repeat (first | exact Drawn0.refl _ | apply Drawn0.step)⟩
  · rw [if_neg c3] at H
    have c3b0 : decide (a0 < a1) = false := decide_eq_false c3
    clear c3
    by_cases c4 : a0 > a1
    · rw [if_pos c4] at H
      have c4b0 : decide (a1 < a0) = true := decide_eq_true c4
      clear c4
      obtain rfl := Option.some.inj H
      go_enter Try.func108, Try.ntmps108
      go_wp2
      go_ret
      exact ⟨by first | rfl | (simp; done) | (simp [*]; done), by repeat (first | exact Drawn0.refl _ | apply Drawn0.step)⟩
    · rw [if_neg c4] at H
      have c4b0 : decide (a1 < a0) = false := decide_eq_false c4
      clear c4
      obtain rfl := Option.some.inj H
      go_enter Try.func108, Try.ntmps108
      go_wp2
      go_ret
      exact ⟨by first | rfl | (simp; done) | (simp [*]; done), by repeat (first | exact Drawn0.refl _ | apply Drawn0.step)⟩
mutual
def cordonref01_texts.l0 : Nat → ByteArray → ByteArray → Int → Option (Int)
  | 0, _, _, _ => none
  | k + 1, x0, x1, x5 => if x5 < (x0.size : Int) then (cordonref01_texts.j1 k x0 x1 x5 (decide (x5 < (x1.size : Int)))) else (cordonref01_texts.j1 k x0 x1 x5 false)
def cordonref01_texts.j1 : Nat → ByteArray → ByteArray → Int → Bool → Option (Int)
  | 0, _, _, _, _ => none
  | k + 1, x0, x1, x5, x15 => if x15 = true then (if 0 ≤ x5 then (if x5 < (x0.size : Int) then (if x5 < (x1.size : Int) then (if (bt x0 x5) < (bt x1 x5) then (some (-1)) else (if (bt x0 x5) > (bt x1 x5) then (some 1) else (cordonref01_texts.l0 k x0 x1 (wrap64 (x5 + 1))))) else (none)) else (none)) else (none)) else ((cordonref01_ints.f (x0.size : Int) (x1.size : Int)).bind fun t407 => (some t407))
end
def cordonref01_texts.f (k : Nat) (a0 : ByteArray) (a1 : ByteArray) : Option (Int) := cordonref01_texts.l0 k a0 a1 0
set_option maxHeartbeats 8000000 in
set_option maxRecDepth 100000 in
theorem cordonref01_texts.calls (k : Nat) (a0 : ByteArray) (a1 : ByteArray) (r : Int) (w : World) (h : cordonref01_texts.f k a0 a1 = some r) :
    Calls Try.prog 109 #[.string a0, .string a1] w fun e w' => e = .returned (.int .i64 r) ∧ Drawn0 w w' := by
  have H : (cordonref01_texts.l0 k a0 a1 0) = some r := h
  clear h
  have H' := Aside0.mk H
  clear H
  go_enter Try.func109, Try.ntmps109
  go_wp2
  repeat (go_quiet (fail); try go_wp2)
  go_loopg [5] k (fun kq v5 w' => ∃ (x5_1 : Int), v5 = .int .i64 x5_1 ∧ Aside0 (cordonref01_texts.l0 kq a0 a1 x5_1 = some r) ∧ Aside0 (kq ≤ k) ∧ Drawn0 w w')
  case atStart => exact ⟨(0), (by first | rfl | (simp; done) | (simp [*]; done)), H', ⟨Nat.le_refl _⟩, by repeat (first | exact Drawn0.refl _ | apply Drawn0.step)⟩
  case round =>
    clear H'
    try clear c1
    try clear p2
    obtain ⟨x5_1, rfl, HA, HK1, ⟨m1, rfl⟩⟩ := hrel
    cases gk with
    | zero => exact absurd HA.out (by simp [cordonref01_texts.l0])
    | succ k1 =>
      have H := HA.out
      clear HA
      simp only [cordonref01_texts.l0] at H
      have HC3 := Aside0.mk H
      clear H
      go_upto_region 2 with (fail)
      repeat (go_quiet (fail); go_upto_region 2 with (fail))
      go_cut [15] (fun v15 wc => ∃ (kq : Nat) (x15_2 : Bool), v15 = .bool x15_2 ∧ Aside0 (cordonref01_texts.j1 kq a0 a1 x5_1 x15_2 = some r) ∧ Aside0 (kq ≤ k1) ∧ Drawn0 w wc)
      case first =>
        have H := HC3.out
        clear HC3
        by_cases c4 : x5_1 < (a0.size : Int)
        · rw [if_pos c4] at H
          have c4b0 : decide (x5_1 < (a0.size : Int)) = true := decide_eq_true c4
          clear c4
          (first | rw [c4b0] | (simp only [i64_w, i32_w]; rw [c4b0]) | skip)
          have H' := Aside0.mk H
          clear H
          go_wp2
          repeat (go_quiet (fail); try go_wp2)
          go_meet
          case rel => exact ⟨_, (decide (x5_1 < (a1.size : Int))), (by first | rfl | (simp; done) | (simp [*]; done)), H', ⟨by have := HK1.out; first | omega | exact Nat.le_refl _⟩, by repeat (first | exact Drawn0.refl _ | apply Drawn0.step)⟩
        · rw [if_neg c4] at H
          have c4b0 : decide (x5_1 < (a0.size : Int)) = false := decide_eq_false c4
          clear c4
          (first | rw [c4b0] | (simp only [i64_w, i32_w]; rw [c4b0]) | skip)
          have H' := Aside0.mk H
          clear H
          go_wp2
          repeat (go_quiet (fail); try go_wp2)
          go_meet
          case rel => exact ⟨_, (false), (by first | rfl | (simp; done) | (simp [*]; done)), H', ⟨by have := HK1.out; first | omega | exact Nat.le_refl _⟩, by repeat (first | exact Drawn0.refl _ | apply Drawn0.step)⟩
      case rest =>
        clear HC3
        try clear c1
        try clear p2
        try clear c4
        try clear c4b0
        try clear p2
        obtain ⟨kq, x15_2, rfl, HA, HJ2, ⟨mc2, rfl⟩⟩ := hcut
        cases kq with
        | zero => exact absurd HA.out (by simp [cordonref01_texts.j1])
        | succ kj2 =>
          have H := HA.out
          clear HA
          simp only [cordonref01_texts.j1] at H
          by_cases c5 : x15_2 = true
          · subst c5
            have H1 : (if 0 ≤ x5_1 then (if x5_1 < (a0.size : Int) then (if x5_1 < (a1.size : Int) then (if (bt a0 x5_1) < (bt a1 x5_1) then (some (-1)) else (if (bt a0 x5_1) > (bt a1 x5_1) then (some 1) else (cordonref01_texts.l0 kj2 a0 a1 (wrap64 (x5_1 + 1))))) else (none)) else (none)) else (none)) = some r := by rw [if_pos rfl] at H; exact H
            clear H
            have H := H1
            clear H1
            by_cases c6 : 0 ≤ x5_1
            · rw [if_pos c6] at H
              have c6b0 : decide (0 ≤ x5_1) = true := decide_eq_true c6
              clear c6
              by_cases c7 : x5_1 < (a0.size : Int)
              · rw [if_pos c7] at H
                have c7b0 : decide (x5_1 < (a0.size : Int)) = true := decide_eq_true c7
                clear c7
                by_cases c9 : x5_1 < (a1.size : Int)
                · rw [if_pos c9] at H
                  have c9b0 : decide (x5_1 < (a1.size : Int)) = true := decide_eq_true c9
                  clear c9
                  by_cases c11 : (bt a0 x5_1) < (bt a1 x5_1)
                  · rw [if_pos c11] at H
                    have c11b0 : decide ((bt a0 x5_1) < (bt a1 x5_1)) = true := decide_eq_true c11
                    clear c11
                    obtain rfl := Option.some.inj H
                    have p8 : 0 ≤ (x5_1 : Int) := of_decide_eq_true (by first | (with_reducible assumption) | assumption)
                    have q8 : x5_1 < (a0.size : Int) := of_decide_eq_true (by first | (with_reducible assumption) | assumption)
                    have hx8 := bt_at a0 x5_1
                    replace p8 := eq_true p8
                    replace q8 := eq_true q8
                    have p10 : 0 ≤ (x5_1 : Int) := of_decide_eq_true (by first | (with_reducible assumption) | assumption)
                    have q10 : x5_1 < (a1.size : Int) := of_decide_eq_true (by first | (with_reducible assumption) | assumption)
                    have hx10 := bt_at a1 x5_1
                    replace p10 := eq_true p10
                    replace q10 := eq_true q10
                    go_wp2
                    repeat (go_quiet (fail); try go_wp2)
                    go_ret
                    exact ⟨by first | rfl | (simp; done) | (simp [*]; done), by repeat (first | exact Drawn0.refl _ | apply Drawn0.step)⟩
                  · rw [if_neg c11] at H
                    have c11b0 : decide ((bt a0 x5_1) < (bt a1 x5_1)) = false := decide_eq_false c11
                    clear c11
                    by_cases c14 : (bt a0 x5_1) > (bt a1 x5_1)
                    · rw [if_pos c14] at H
                      have c14b0 : decide ((bt a1 x5_1) < (bt a0 x5_1)) = true := decide_eq_true c14
                      clear c14
                      obtain rfl := Option.some.inj H
                      have p8 : 0 ≤ (x5_1 : Int) := of_decide_eq_true (by first | (with_reducible assumption) | assumption)
                      have q8 : x5_1 < (a0.size : Int) := of_decide_eq_true (by first | (with_reducible assumption) | assumption)
                      have hx8 := bt_at a0 x5_1
                      replace p8 := eq_true p8
                      replace q8 := eq_true q8
                      have p10 : 0 ≤ (x5_1 : Int) := of_decide_eq_true (by first | (with_reducible assumption) | assumption)
                      have q10 : x5_1 < (a1.size : Int) := of_decide_eq_true (by first | (with_reducible assumption) | assumption)
                      have hx10 := bt_at a1 x5_1
                      replace p10 := eq_true p10
                      replace q10 := eq_true q10
                      have p12 : 0 ≤ (x5_1 : Int) := of_decide_eq_true (by first | (with_reducible assumption) | assumption)
                      have q12 : x5_1 < (a0.size : Int) := of_decide_eq_true (by first | (with_reducible assumption) | assumption)
                      have hx12 := bt_at a0 x5_1
                      replace p12 := eq_true p12
                      replace q12 := eq_true q12
                      have p13 : 0 ≤ (x5_1 : Int) := of_decide_eq_true (by first | (with_reducible assumption) | assumption)
                      have q13 : x5_1 < (a1.size : Int) := of_decide_eq_true (by first | (with_reducible assumption) | assumption)
                      have hx13 := bt_at a1 x5_1
                      replace p13 := eq_true p13
                      replace q13 := eq_true q13
                      go_wp2
                      repeat (go_quiet (fail); try go_wp2)
                      go_ret
                      exact ⟨by first | rfl | (simp; done) | (simp [*]; done), by repeat (first | exact Drawn0.refl _ | apply Drawn0.step)⟩
                    · rw [if_neg c14] at H
                      have c14b0 : decide ((bt a1 x5_1) < (bt a0 x5_1)) = false := decide_eq_false c14
                      clear c14
                      have H' := Aside0.mk H
                      clear H
                      have p8 : 0 ≤ (x5_1 : Int) := of_decide_eq_true (by first | (with_reducible assumption) | assumption)
                      have q8 : x5_1 < (a0.size : Int) := of_decide_eq_true (by first | (with_reducible assumption) | assumption)
                      have hx8 := bt_at a0 x5_1
                      replace p8 := eq_true p8
                      replace q8 := eq_true q8
                      have p10 : 0 ≤ (x5_1 : Int) := of_decide_eq_true (by first | (with_reducible assumption) | assumption)
                      have q10 : x5_1 < (a1.size : Int) := of_decide_eq_true (by first | (with_reducible assumption) | assumption)
                      have hx10 := bt_at a1 x5_1
                      replace p10 := eq_true p10
                      replace q10 := eq_true q10
                      have p12 : 0 ≤ (x5_1 : Int) := of_decide_eq_true (by first | (with_reducible assumption) | assumption)
                      have q12 : x5_1 < (a0.size : Int) := of_decide_eq_true (by first | (with_reducible assumption) | assumption)
                      have hx12 := bt_at a0 x5_1
                      replace p12 := eq_true p12
                      replace q12 := eq_true q12
                      have p13 : 0 ≤ (x5_1 : Int) := of_decide_eq_true (by first | (with_reducible assumption) | assumption)
                      have q13 : x5_1 < (a1.size : Int) := of_decide_eq_true (by first | (with_reducible assumption) | assumption)
                      have hx13 := bt_at a1 x5_1
                      replace p13 := eq_true p13
                      replace q13 := eq_true q13
                      go_wp2
                      repeat (go_quiet (fail); try go_wp2)
                      go_roundg kj2
                      case measure => have := HK1.out; have := HJ2.out; omega
                      case rel => exact ⟨(wrap64 (x5_1 + 1)), (by first | rfl | (simp; done) | (simp [*]; done)), H', ⟨by have := HK1.out; have := HJ2.out; omega⟩, by repeat (first | exact Drawn0.refl _ | apply Drawn0.step)⟩
                · rw [if_neg c9] at H
                  exact absurd H (by simp)
              · rw [if_neg c7] at H
                exact absurd H (by simp)
            · rw [if_neg c6] at H
              exact absurd H (by simp)
          · replace c5 := Bool.eq_false_iff.mpr c5
            subst c5
            have H1 : ((cordonref01_ints.f (a0.size : Int) (a1.size : Int)).bind fun t407 => (some t407)) = some r := by rw [if_neg (show ¬ (false = true) by decide)] at H; exact H
            clear H
            have H := H1
            clear H1
            replace H := Option.bind_eq_some_iff.mp H
            obtain ⟨t407, A150, H⟩ := H
            replace H : (some t407) = some r := H
            have A15 := Aside0.mk A150
            clear A150
            obtain rfl := Option.some.inj H
            go_wp2_with (first | (go_at_call 108; (with_reducible refine (cordonref01_ints.calls (a0.size : Int) (a1.size : Int) t407 _ A15.out).mono ?_); rintro e w' ⟨rfl, ⟨nd, rfl⟩⟩; (try first | exact ⟨rfl, _, World.drewN_drewN _ _ _⟩ | exact ⟨rfl, _, Eq.trans (World.drewN_drewN _ _ _) (congrArg (World.drewN _) (Nat.add_assoc _ _ _))⟩)))
            repeat (go_quiet (first | (go_at_call 108; (with_reducible refine (cordonref01_ints.calls (a0.size : Int) (a1.size : Int) t407 _ A15.out).mono ?_); rintro e w' ⟨rfl, ⟨nd, rfl⟩⟩; (try first | exact ⟨rfl, _, World.drewN_drewN _ _ _⟩ | exact ⟨rfl, _, Eq.trans (World.drewN_drewN _ _ _) (congrArg (World.drewN _) (Nat.add_assoc _ _ _))⟩))); try go_wp2_with (first | (go_at_call 108; (with_reducible refine (cordonref01_ints.calls (a0.size : Int) (a1.size : Int) t407 _ A15.out).mono ?_); rintro e w' ⟨rfl, ⟨nd, rfl⟩⟩; (try first | exact ⟨rfl, _, World.drewN_drewN _ _ _⟩ | exact ⟨rfl, _, Eq.trans (World.drewN_drewN _ _ _) (congrArg (World.drewN _) (Nat.add_assoc _ _ _))⟩))))
            go_ret
            exact ⟨by first | rfl | (simp; done) | (simp [*]; done), by repeat (first | exact Drawn0.refl _ | apply Drawn0.step)⟩
def cordonref01_Order.f (k : Nat) (a0_0 : Int) (a0_1 : Int) (a0_2 : ByteArray) (a1_0 : Int) (a1_1 : Int) (a1_2 : ByteArray) : Option (Int) := if a0_0 = a1_0 then (if a0_1 = a1_1 then ((cordonref01_texts.f k a0_2 a1_2).bind fun t411 => (some t411)) else ((cordonref01_ints.f a0_1 a1_1).bind fun t412 => (some t412))) else ((cordonref01_ints.f a0_0 a1_0).bind fun t410 => (some t410))
set_option maxHeartbeats 8000000 in
set_option maxRecDepth 100000 in
theorem cordonref01_Order.calls (k : Nat) (a0_0 : Int) (a0_1 : Int) (a0_2 : ByteArray) (a1_0 : Int) (a1_1 : Int) (a1_2 : ByteArray) (r : Int) (w : World) (h : cordonref01_Order.f k a0_0 a0_1 a0_2 a1_0 a1_1 a1_2 = some r) :
    Calls Try.prog 85 #[.agg #[.int .i64 a0_0, .int .i64 a0_1, .string a0_2], .agg #[.int .i64 a1_0, .int .i64 a1_1, .string a1_2]] w fun e w' => e = .returned (.int .i64 r) ∧ Below w.heap.size w w' := by
  have hu33 := Try.underlying33
  have HB := Aside0.mk (Below.refl w.heap.size w)
  have H : (if a0_0 = a1_0 then (if a0_1 = a1_1 then ((cordonref01_texts.f k a0_2 a1_2).bind fun t411 => (some t411)) else ((cordonref01_ints.f a0_1 a1_1).bind fun t412 => (some t412))) else ((cordonref01_ints.f a0_0 a1_0).bind fun t410 => (some t410))) = some r := h
  clear h
  by_cases c3 : a0_0 = a1_0
  · rw [if_pos c3] at H
    have c3b0 : (a0_0 == a1_0) = true := beq_iff_eq.mpr c3
    have c3b1 : (a0_0 != a1_0) = false := bne_eq_false_iff_eq.mpr c3
    clear c3
    by_cases c4 : a0_1 = a1_1
    · rw [if_pos c4] at H
      have c4b0 : (a0_1 == a1_1) = true := beq_iff_eq.mpr c4
      have c4b1 : (a0_1 != a1_1) = false := bne_eq_false_iff_eq.mpr c4
      clear c4
      replace H := Option.bind_eq_some_iff.mp H
      obtain ⟨t411, A50, H⟩ := H
      replace H : (some t411) = some r := H
      have A5 := Aside0.mk A50
      clear A50
      obtain rfl := Option.some.inj H
      go_enter Try.func85, Try.ntmps85
      go_wp2_with (first | ((with_reducible refine gate_dst (N := 2) rfl ?_); refine box_event ?hg (N := 2) ?hd (cs := #[.int .i64 a0_0, .int .i64 a0_1, .string a0_2]) (t := 33) ?hr ?_; (case hd => rfl); (case hg => rfl); (case hr => first | (go_simp; done) | (go_simp; rfl)); intro gb408 hg w6 hbox hb; have n0_ := Aside0.mk (below_step (by repeat (first | (with_reducible first | exact HB.out | apply below_alloc | apply pw_below_drewN | apply below_drew1) | exact HB.out)) hb); have n1_ := Aside0.mk (hbox); have n2_ := Aside0.mk ((by rw [hg]; exact (below_size (by repeat (first | (with_reducible first | exact HB.out | apply below_alloc | apply pw_below_drewN | apply below_drew1) | exact HB.out))) : w.heap.size ≤ gb408)); have n3_ := Aside0.mk ((by rw [hg]; exact (below_size (by repeat (first | (with_reducible first | exact HB.out | apply below_alloc | apply pw_below_drewN | apply below_drew1) | exact HB.out))) : w.heap.size ≤ gb408)); clear HB; have HB := n0_; have BK408 := n1_; have GW408 := n2_; have GE408 := n3_; clear n0_ n1_ n2_ n3_; clear hb hbox hg) | ((with_reducible refine gate_dst (N := 3) rfl ?_); refine box_event ?hg (N := 3) ?hd (cs := #[.int .i64 a1_0, .int .i64 a1_1, .string a1_2]) (t := 33) ?hr ?_; (case hd => rfl); (case hg => rfl); (case hr => first | (go_simp; done) | (go_simp; rfl)); intro gb409 hg w7 hbox hb; have n0_ := Aside0.mk (blk_below (g := gb408) (o := .cells #[.int .i64 a0_0, .int .i64 a0_1, .string a0_2] 33 (0, 0)) (by (with_reducible repeat (first | refine blk_drewN ?_ _ | refine blk_drew ?_ | refine blk_alloc ?_ _)); exact BK408.out) hb); have n1_ := Aside0.mk (below_step (by repeat (first | (with_reducible first | exact HB.out | apply below_alloc | apply pw_below_drewN | apply below_drew1 | refine below_set ?_ GE408.out) | exact HB.out)) hb); have n2_ := Aside0.mk (hbox); have n3_ := Aside0.mk ((by rw [hg]; exact (below_size (by repeat (first | (with_reducible first | exact HB.out | apply below_alloc | apply pw_below_drewN | apply below_drew1 | refine below_set ?_ GE408.out) | exact HB.out))) : w.heap.size ≤ gb409)); have n4_ := Aside0.mk ((by rw [hg]; exact (below_size (by repeat (first | (with_reducible first | exact HB.out | apply below_alloc | apply pw_below_drewN | apply below_drew1 | refine below_set ?_ GE408.out) | exact HB.out))) : w.heap.size ≤ gb409)); have n5_ := Aside0.mk ((by rw [hg]; exact Nat.ne_of_lt (blk_lt (g := gb408) (o := .cells #[.int .i64 a0_0, .int .i64 a0_1, .string a0_2] 33 (0, 0)) (by (with_reducible repeat (first | refine blk_drewN ?_ _ | refine blk_drew ?_ | refine blk_alloc ?_ _)); exact BK408.out)) : gb408 ≠ gb409)); have n6_ := Aside0.mk ((by rw [hg]; exact Nat.ne_of_gt (blk_lt (g := gb408) (o := .cells #[.int .i64 a0_0, .int .i64 a0_1, .string a0_2] 33 (0, 0)) (by (with_reducible repeat (first | refine blk_drewN ?_ _ | refine blk_drew ?_ | refine blk_alloc ?_ _)); exact BK408.out)) : gb409 ≠ gb408)); clear BK408; clear HB; have BK408 := n0_; have HB := n1_; have BK409 := n2_; have GW409 := n3_; have GE409 := n4_; have NB408_409 := n5_; have NB409_408 := n6_; clear n0_ n1_ n2_ n3_ n4_ n5_ n6_; clear hb hbox hg; have hnb8 := NB408_409.out; have hnc8 := NB409_408.out; have hcz9_0 : w7.cell? ⟨gb408, 0, none⟩ = some (.int .i64 a0_0) := (blk_cell BK408.out 0).trans rfl; have hcz9_1 : w7.cell? ⟨gb408, 1, none⟩ = some (.int .i64 a0_1) := (blk_cell BK408.out 1).trans rfl; have hcz9_2 : w7.cell? ⟨gb408, 2, none⟩ = some (.string a0_2) := (blk_cell BK408.out 2).trans rfl; have hfz9_0 := blk_frozen BK408.out 0; have hfz9_1 := blk_frozen BK408.out 1; have hfz9_2 := blk_frozen BK408.out 2; have hcz10_0 : w7.cell? ⟨gb409, 0, none⟩ = some (.int .i64 a1_0) := (blk_cell BK409.out 0).trans rfl; have hcz10_1 : w7.cell? ⟨gb409, 1, none⟩ = some (.int .i64 a1_1) := (blk_cell BK409.out 1).trans rfl; have hcz10_2 : w7.cell? ⟨gb409, 2, none⟩ = some (.string a1_2) := (blk_cell BK409.out 2).trans rfl; have hfz10_0 := blk_frozen BK409.out 0; have hfz10_1 := blk_frozen BK409.out 1; have hfz10_2 := blk_frozen BK409.out 2) | ((with_reducible refine gate_callee (f := 109) rfl ?_); refine goesL_ (some 29) rfl rfl Try.func109 (by kernel_rfl) rfl #[.string a0_2, .string a1_2] rfl (by (try simp only [List.map_toArray, List.map_cons, List.map_nil]); first | done | rfl | (simp only [List.length_drop, List.length_take]; rfl)) ?_; (with_reducible refine (cordonref01_texts.calls k a0_2 a1_2 t411 _ A5.out).mono ?_); rintro e w' ⟨rfl, ⟨nd, rfl⟩⟩; refine ⟨_, rfl, ?_⟩))
      go_ret
      exact ⟨by first | rfl | (simp [errW_none, errW_some] <;> rfl) | (simp [*, errW_none, errW_some] <;> rfl), by repeat (first | (with_reducible first | exact HB.out | apply below_alloc | apply pw_below_drewN | apply below_drew1 | refine below_set ?_ GE408.out | refine below_set ?_ GE409.out) | exact HB.out)⟩
    · rw [if_neg c4] at H
      have c4b0 : (a0_1 == a1_1) = false := beq_eq_false_iff_ne.mpr c4
      have c4b1 : (a0_1 != a1_1) = true := bne_iff_ne.mpr c4
      replace H := Option.bind_eq_some_iff.mp H
      obtain ⟨t412, A110, H⟩ := H
      replace H : (some t412) = some r := H
      have A11 := Aside0.mk A110
      clear A110
      obtain rfl := Option.some.inj H
      go_enter Try.func85, Try.ntmps85
      go_wp2_with (first | ((with_reducible refine gate_dst (N := 2) rfl ?_); refine box_event ?hg (N := 2) ?hd (cs := #[.int .i64 a0_0, .int .i64 a0_1, .string a0_2]) (t := 33) ?hr ?_; (case hd => rfl); (case hg => rfl); (case hr => first | (go_simp; done) | (go_simp; rfl)); intro gb408 hg w12 hbox hb; have n0_ := Aside0.mk (below_step (by repeat (first | (with_reducible first | exact HB.out | apply below_alloc | apply pw_below_drewN | apply below_drew1) | exact HB.out)) hb); have n1_ := Aside0.mk (hbox); have n2_ := Aside0.mk ((by rw [hg]; exact (below_size (by repeat (first | (with_reducible first | exact HB.out | apply below_alloc | apply pw_below_drewN | apply below_drew1) | exact HB.out))) : w.heap.size ≤ gb408)); have n3_ := Aside0.mk ((by rw [hg]; exact (below_size (by repeat (first | (with_reducible first | exact HB.out | apply below_alloc | apply pw_below_drewN | apply below_drew1) | exact HB.out))) : w.heap.size ≤ gb408)); clear HB; have HB := n0_; have BK408 := n1_; have GW408 := n2_; have GE408 := n3_; clear n0_ n1_ n2_ n3_; clear hb hbox hg) | ((with_reducible refine gate_dst (N := 3) rfl ?_); refine box_event ?hg (N := 3) ?hd (cs := #[.int .i64 a1_0, .int .i64 a1_1, .string a1_2]) (t := 33) ?hr ?_; (case hd => rfl); (case hg => rfl); (case hr => first | (go_simp; done) | (go_simp; rfl)); intro gb409 hg w13 hbox hb; have n0_ := Aside0.mk (blk_below (g := gb408) (o := .cells #[.int .i64 a0_0, .int .i64 a0_1, .string a0_2] 33 (0, 0)) (by (with_reducible repeat (first | refine blk_drewN ?_ _ | refine blk_drew ?_ | refine blk_alloc ?_ _)); exact BK408.out) hb); have n1_ := Aside0.mk (below_step (by repeat (first | (with_reducible first | exact HB.out | apply below_alloc | apply pw_below_drewN | apply below_drew1 | refine below_set ?_ GE408.out) | exact HB.out)) hb); have n2_ := Aside0.mk (hbox); have n3_ := Aside0.mk ((by rw [hg]; exact (below_size (by repeat (first | (with_reducible first | exact HB.out | apply below_alloc | apply pw_below_drewN | apply below_drew1 | refine below_set ?_ GE408.out) | exact HB.out))) : w.heap.size ≤ gb409)); have n4_ := Aside0.mk ((by rw [hg]; exact (below_size (by repeat (first | (with_reducible first | exact HB.out | apply below_alloc | apply pw_below_drewN | apply below_drew1 | refine below_set ?_ GE408.out) | exact HB.out))) : w.heap.size ≤ gb409)); have n5_ := Aside0.mk ((by rw [hg]; exact Nat.ne_of_lt (blk_lt (g := gb408) (o := .cells #[.int .i64 a0_0, .int .i64 a0_1, .string a0_2] 33 (0, 0)) (by (with_reducible repeat (first | refine blk_drewN ?_ _ | refine blk_drew ?_ | refine blk_alloc ?_ _)); exact BK408.out)) : gb408 ≠ gb409)); have n6_ := Aside0.mk ((by rw [hg]; exact Nat.ne_of_gt (blk_lt (g := gb408) (o := .cells #[.int .i64 a0_0, .int .i64 a0_1, .string a0_2] 33 (0, 0)) (by (with_reducible repeat (first | refine blk_drewN ?_ _ | refine blk_drew ?_ | refine blk_alloc ?_ _)); exact BK408.out)) : gb409 ≠ gb408)); clear BK408; clear HB; have BK408 := n0_; have HB := n1_; have BK409 := n2_; have GW409 := n3_; have GE409 := n4_; have NB408_409 := n5_; have NB409_408 := n6_; clear n0_ n1_ n2_ n3_ n4_ n5_ n6_; clear hb hbox hg; have hnb14 := NB408_409.out; have hnc14 := NB409_408.out; have hcz15_0 : w13.cell? ⟨gb408, 0, none⟩ = some (.int .i64 a0_0) := (blk_cell BK408.out 0).trans rfl; have hcz15_1 : w13.cell? ⟨gb408, 1, none⟩ = some (.int .i64 a0_1) := (blk_cell BK408.out 1).trans rfl; have hcz15_2 : w13.cell? ⟨gb408, 2, none⟩ = some (.string a0_2) := (blk_cell BK408.out 2).trans rfl; have hfz15_0 := blk_frozen BK408.out 0; have hfz15_1 := blk_frozen BK408.out 1; have hfz15_2 := blk_frozen BK408.out 2; have hcz16_0 : w13.cell? ⟨gb409, 0, none⟩ = some (.int .i64 a1_0) := (blk_cell BK409.out 0).trans rfl; have hcz16_1 : w13.cell? ⟨gb409, 1, none⟩ = some (.int .i64 a1_1) := (blk_cell BK409.out 1).trans rfl; have hcz16_2 : w13.cell? ⟨gb409, 2, none⟩ = some (.string a1_2) := (blk_cell BK409.out 2).trans rfl; have hfz16_0 := blk_frozen BK409.out 0; have hfz16_1 := blk_frozen BK409.out 1; have hfz16_2 := blk_frozen BK409.out 2) | ((with_reducible refine gate_callee (f := 108) rfl ?_); refine goesL_ (some 24) rfl rfl Try.func108 (by kernel_rfl) rfl #[.int .i64 a0_1, .int .i64 a1_1] rfl (by (try simp only [List.map_toArray, List.map_cons, List.map_nil]); first | done | rfl | (simp only [List.length_drop, List.length_take]; rfl)) ?_; (with_reducible refine (cordonref01_ints.calls a0_1 a1_1 t412 _ A11.out).mono ?_); rintro e w' ⟨rfl, ⟨nd, rfl⟩⟩; refine ⟨_, rfl, ?_⟩))
      go_ret
      exact ⟨by first | rfl | (simp [errW_none, errW_some] <;> rfl) | (simp [*, errW_none, errW_some] <;> rfl), by repeat (first | (with_reducible first | exact HB.out | apply below_alloc | apply pw_below_drewN | apply below_drew1 | refine below_set ?_ GE408.out | refine below_set ?_ GE409.out) | exact HB.out)⟩
  · rw [if_neg c3] at H
    have c3b0 : (a0_0 == a1_0) = false := beq_eq_false_iff_ne.mpr c3
    have c3b1 : (a0_0 != a1_0) = true := bne_iff_ne.mpr c3
    replace H := Option.bind_eq_some_iff.mp H
    obtain ⟨t410, A170, H⟩ := H
    replace H : (some t410) = some r := H
    have A17 := Aside0.mk A170
    clear A170
    obtain rfl := Option.some.inj H
    go_enter Try.func85, Try.ntmps85
    go_wp2_with (first | ((with_reducible refine gate_dst (N := 2) rfl ?_); refine box_event ?hg (N := 2) ?hd (cs := #[.int .i64 a0_0, .int .i64 a0_1, .string a0_2]) (t := 33) ?hr ?_; (case hd => rfl); (case hg => rfl); (case hr => first | (go_simp; done) | (go_simp; rfl)); intro gb408 hg w18 hbox hb; have n0_ := Aside0.mk (below_step (by repeat (first | (with_reducible first | exact HB.out | apply below_alloc | apply pw_below_drewN | apply below_drew1) | exact HB.out)) hb); have n1_ := Aside0.mk (hbox); have n2_ := Aside0.mk ((by rw [hg]; exact (below_size (by repeat (first | (with_reducible first | exact HB.out | apply below_alloc | apply pw_below_drewN | apply below_drew1) | exact HB.out))) : w.heap.size ≤ gb408)); have n3_ := Aside0.mk ((by rw [hg]; exact (below_size (by repeat (first | (with_reducible first | exact HB.out | apply below_alloc | apply pw_below_drewN | apply below_drew1) | exact HB.out))) : w.heap.size ≤ gb408)); clear HB; have HB := n0_; have BK408 := n1_; have GW408 := n2_; have GE408 := n3_; clear n0_ n1_ n2_ n3_; clear hb hbox hg) | ((with_reducible refine gate_dst (N := 3) rfl ?_); refine box_event ?hg (N := 3) ?hd (cs := #[.int .i64 a1_0, .int .i64 a1_1, .string a1_2]) (t := 33) ?hr ?_; (case hd => rfl); (case hg => rfl); (case hr => first | (go_simp; done) | (go_simp; rfl)); intro gb409 hg w19 hbox hb; have n0_ := Aside0.mk (blk_below (g := gb408) (o := .cells #[.int .i64 a0_0, .int .i64 a0_1, .string a0_2] 33 (0, 0)) (by (with_reducible repeat (first | refine blk_drewN ?_ _ | refine blk_drew ?_ | refine blk_alloc ?_ _)); exact BK408.out) hb); have n1_ := Aside0.mk (below_step (by repeat (first | (with_reducible first | exact HB.out | apply below_alloc | apply pw_below_drewN | apply below_drew1 | refine below_set ?_ GE408.out) | exact HB.out)) hb); have n2_ := Aside0.mk (hbox); have n3_ := Aside0.mk ((by rw [hg]; exact (below_size (by repeat (first | (with_reducible first | exact HB.out | apply below_alloc | apply pw_below_drewN | apply below_drew1 | refine below_set ?_ GE408.out) | exact HB.out))) : w.heap.size ≤ gb409)); have n4_ := Aside0.mk ((by rw [hg]; exact (below_size (by repeat (first | (with_reducible first | exact HB.out | apply below_alloc | apply pw_below_drewN | apply below_drew1 | refine below_set ?_ GE408.out) | exact HB.out))) : w.heap.size ≤ gb409)); have n5_ := Aside0.mk ((by rw [hg]; exact Nat.ne_of_lt (blk_lt (g := gb408) (o := .cells #[.int .i64 a0_0, .int .i64 a0_1, .string a0_2] 33 (0, 0)) (by (with_reducible repeat (first | refine blk_drewN ?_ _ | refine blk_drew ?_ | refine blk_alloc ?_ _)); exact BK408.out)) : gb408 ≠ gb409)); have n6_ := Aside0.mk ((by rw [hg]; exact Nat.ne_of_gt (blk_lt (g := gb408) (o := .cells #[.int .i64 a0_0, .int .i64 a0_1, .string a0_2] 33 (0, 0)) (by (with_reducible repeat (first | refine blk_drewN ?_ _ | refine blk_drew ?_ | refine blk_alloc ?_ _)); exact BK408.out)) : gb409 ≠ gb408)); clear BK408; clear HB; have BK408 := n0_; have HB := n1_; have BK409 := n2_; have GW409 := n3_; have GE409 := n4_; have NB408_409 := n5_; have NB409_408 := n6_; clear n0_ n1_ n2_ n3_ n4_ n5_ n6_; clear hb hbox hg; have hnb20 := NB408_409.out; have hnc20 := NB409_408.out; have hcz21_0 : w19.cell? ⟨gb408, 0, none⟩ = some (.int .i64 a0_0) := (blk_cell BK408.out 0).trans rfl; have hcz21_1 : w19.cell? ⟨gb408, 1, none⟩ = some (.int .i64 a0_1) := (blk_cell BK408.out 1).trans rfl; have hcz21_2 : w19.cell? ⟨gb408, 2, none⟩ = some (.string a0_2) := (blk_cell BK408.out 2).trans rfl; have hfz21_0 := blk_frozen BK408.out 0; have hfz21_1 := blk_frozen BK408.out 1; have hfz21_2 := blk_frozen BK408.out 2; have hcz22_0 : w19.cell? ⟨gb409, 0, none⟩ = some (.int .i64 a1_0) := (blk_cell BK409.out 0).trans rfl; have hcz22_1 : w19.cell? ⟨gb409, 1, none⟩ = some (.int .i64 a1_1) := (blk_cell BK409.out 1).trans rfl; have hcz22_2 : w19.cell? ⟨gb409, 2, none⟩ = some (.string a1_2) := (blk_cell BK409.out 2).trans rfl; have hfz22_0 := blk_frozen BK409.out 0; have hfz22_1 := blk_frozen BK409.out 1; have hfz22_2 := blk_frozen BK409.out 2) | ((with_reducible refine gate_callee (f := 108) rfl ?_); refine goesL_ (some 14) rfl rfl Try.func108 (by kernel_rfl) rfl #[.int .i64 a0_0, .int .i64 a1_0] rfl (by (try simp only [List.map_toArray, List.map_cons, List.map_nil]); first | done | rfl | (simp only [List.length_drop, List.length_take]; rfl)) ?_; (with_reducible refine (cordonref01_ints.calls a0_0 a1_0 t410 _ A17.out).mono ?_); rintro e w' ⟨rfl, ⟨nd, rfl⟩⟩; refine ⟨_, rfl, ?_⟩))
    go_ret
    exact ⟨by first | rfl | (simp [errW_none, errW_some] <;> rfl) | (simp [*, errW_none, errW_some] <;> rfl), by repeat (first | (with_reducible first | exact HB.out | apply below_alloc | apply pw_below_drewN | apply below_drew1 | refine below_set ?_ GE408.out | refine below_set ?_ GE409.out) | exact HB.out)⟩
end Go.Proofs.Ythghflgmeepnlaa.Pa
end
