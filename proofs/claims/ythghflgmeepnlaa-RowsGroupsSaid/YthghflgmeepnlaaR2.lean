/- slices.insertionSortCmpFunc at numbers of rows. rows.order: how two keys stand. rows.Sort's closures: a place's key; how the keys of two places stand. slices.SortStableFunc below twenty places. rows.Sort. -/
import Derived.Test.YthghflgmeepnlaaR1
import Derived.BigRegion
import Derived.BigQuiet
import Derived.Deep.LoopGhost
import Derived.Test.YthghflgmeepnlaaPaG13b
import Derived.Test.YthghflgmeepnlaaHb
import Derived.Test.YthghflgmeepnlaaHd
import Derived.Laws.EntriesVeiled
namespace Go.Proofs.Ythghflgmeepnlaa.Pa
open Go.RowKit Go.Proofs.YthghflgmeepnlaaW.PrintWords Go.Proofs.YthghflgmeepnlaaW.PrintLast Go.Proofs.YthghflgmeepnlaaW.PrintMore
set_option linter.unusedVariables false
set_option linter.unusedSimpArgs false

/-- A place as a cell. -/
abbrev enN (n : Nat) : Value := .int .i64 (n : Int)
/-- Block g holds these places. -/
def HoldI (W : World) (g : Nat) (xs : List Nat) : Prop := W.heap[g]? = some (.cells (xs.map enN).toArray 3 (0, 0))
theorem HoldI.cell {W : World} {g : Nat} {xs : List Nat} (h : HoldI W g xs) {i x : Nat} (hi : xs[i]? = some x) : W.cell? ⟨g, i, none⟩ = some (enN x) := by
  rw [blk_cell h i]; simp [hi]
theorem HoldI.free {W : World} {g : Nat} {xs : List Nat} (h : HoldI W g xs) (i : Nat) : W.frozen? ⟨g, i, none⟩ = false := by
  simp [World.frozen?, show W.heap[g]? = _ from h]
theorem HoldI.lt {W : World} {g : Nat} {xs : List Nat} (h : HoldI W g xs) : g < W.heap.size := lt_of_block h
theorem HoldI.below {W W1 : World} {g : Nat} {xs : List Nat} (h : HoldI W g xs) (hb : Below W.heap.size W W1) : HoldI W1 g xs := (hb.block g h.lt).trans h
theorem HoldI.drew {W : World} {g : Nat} {xs : List Nat} (h : HoldI W g xs) : HoldI W.drew g xs := h
theorem HoldI.set {W : World} {g : Nat} {xs : List Nat} (h : HoldI W g xs) (i x : Nat) : HoldI (W.setCell ⟨g, i, none⟩ (enN x)) g (xs.set i x) := by
  have hlt := h.lt
  have h' : W.heap[g] = .cells (xs.map enN).toArray 3 (0, 0) := by simpa [Array.getElem?_eq_getElem hlt] using (show W.heap[g]? = _ from h)
  unfold HoldI
  show (W.heap.modify g _)[g]? = _
  rw [Array.getElem?_eq_getElem (by simpa using hlt), Array.getElem_modify_self, h']
  simp [List.map_set]
theorem gr_drew {w W : World} {r : Option Nat} (h : w.grownBy W r) : w.grownBy W.drew r := ⟨h.os, h.tape, h.output, h.size, h.block⟩
theorem gr_below {w W W1 : World} {r : Option Nat} (h : w.grownBy W r) (hb : Below W.heap.size W W1) : w.grownBy W1 r :=
  ⟨hb.os.trans h.os, hb.tape.trans h.tape, hb.output.trans h.output, Nat.le_trans h.size hb.size, fun k hk hr => (hb.block k (Nat.lt_of_lt_of_le hk h.size)).trans (h.block k hk hr)⟩
theorem gr_set {w W : World} {g j : Nat} (h : w.grownBy W (some g)) (v : Value) : w.grownBy (W.setCell ⟨g, j, none⟩ v) (some g) := by
  refine ⟨h.os, h.tape, h.output, ?_, fun k hk hr => ?_⟩
  · simpa [World.setCell] using h.size
  · exact (Below.heap_setCell W ⟨g, j, none⟩ v k (fun e => hr (by rw [e]))).trans (h.block k hk hr)

/-- Two neighbours changed about. -/
def swp1 (xs : List Nat) (j : Nat) : List Nat := (xs.set (j + 1) (xs.getD j 0)).set j (xs.getD (j + 1) 0)
/-- The inner loop. -/
def insIn (cf : Nat → Nat → Int) (a : Nat) : Nat → List Nat → List Nat
  | 0, xs => xs
  | j + 1, xs => if a < j + 1 ∧ cf (xs.getD (j + 1) 0) (xs.getD j 0) < 0 then insIn cf a j (swp1 xs j) else xs
/-- The outer loop. -/
def insOut (cf : Nat → Nat → Int) (a : Nat) : Nat → Nat → List Nat → List Nat
  | 0, _, xs => xs
  | n + 1, i, xs => insOut cf a n (i + 1) (insIn cf a i xs)
def insS (cf : Nat → Nat → Int) (a b : Nat) (xs : List Nat) : List Nat := insOut cf a (b - (a + 1)) (a + 1) xs

theorem swp1_length (xs : List Nat) (j : Nat) : (swp1 xs j).length = xs.length := by simp [swp1]
theorem getD_mem {xs : List Nat} {j : Nat} (h : j < xs.length) : xs.getD j 0 ∈ xs := by
  rw [List.getD_eq_getElem?_getD, List.getElem?_eq_getElem h]; exact List.getElem_mem h
theorem swp1_mem {xs : List Nat} {j x : Nat} (hj : j + 1 < xs.length) (h : x ∈ swp1 xs j) : x ∈ xs := by
  unfold swp1 at h
  rcases List.mem_or_eq_of_mem_set h with h | h
  · rcases List.mem_or_eq_of_mem_set h with h | h
    · exact h
    · rw [h]; exact getD_mem (by omega)
  · rw [h]; exact getD_mem hj

set_option maxHeartbeats 8000000 in
set_option maxRecDepth 1000000 in
theorem ins_calls (fk : Nat) (caps : Array Value) (cf : Nat → Nat → Int) (N g cap a b : Nat) (xs : List Nat) (w : World)
    (hh : HoldI w g xs) (hab : a ≤ b) (hb : b ≤ xs.length) (hsz : xs.length < 4611686018427387904) (hx : ∀ x ∈ xs, x < N)
    (hcf : ∀ (x y : Nat) (W : World), Sem.run Try.prog (callFunc fk (#[enN x, enN y] ++ caps)) W = Result.ok (Next.enter fk (#[enN x, enN y] ++ caps)) W)
    (hcmp : ∀ (W : World) (x y : Nat), w.grownBy W (some g) → x < N → y < N → Calls Try.prog fk (#[enN x, enN y] ++ caps) W fun e w' => e = .returned (.int .i64 (cf x y)) ∧ Below W.heap.size W w') :
    Calls Try.prog 114 #[.slice (some ⟨g, 0, none⟩) xs.length cap, .int .i64 a, .int .i64 b, .func (.func fk) #[] caps] w fun e w' => e = .returned (.tuple #[]) ∧ w.grownBy w' (some g) ∧ HoldI w' g (insS cf a b xs) := by
  have HC := Aside0.mk hcmp
  have HH := Aside0.mk hh
  have HX := Aside0.mk hx
  have HG := Aside0.mk (show w.grownBy w (some g) from ⟨rfl, rfl, rfl, Nat.le_refl _, fun _ _ _ => rfl⟩)
  clear hcmp hh hx
  go_enter Try.func114, Try.ntmps114
  go_wp2
  go_loopg [8] (b - a) (fun g1 vi wr => ∃ (i : Nat) (dk : List Nat), vi = .int .i64 i ∧ a < i ∧ i ≤ b + 1 ∧ b + 1 - i ≤ g1 + 1 ∧ dk.length = xs.length ∧ Aside0 (HoldI wr g dk) ∧ Aside0 (∀ x ∈ dk, x < N) ∧ Aside0 (w.grownBy wr (some g)) ∧ Aside0 (insOut cf a (b - i) i dk = insS cf a b xs))
  case atStart => exact ⟨a + 1, xs, by go_num, by omega, by omega, by omega, rfl, HH, HX, HG, ⟨rfl⟩⟩
  case round =>
    clear HH HX HG
    obtain ⟨i, dk, rfl, hai, hib, hg1, hsk, HH, HX, HG, HO⟩ := hrel
    by_cases hlt : i < b
    · have hltz : (i : Int) < (b : Int) := by omega
      go_wp2
      go_loopg [9] i (fun g2 vj wr2 => ∃ (j : Nat) (dj : List Nat), vj = .int .i64 j ∧ a ≤ j ∧ j ≤ i ∧ j ≤ g2 ∧ dj.length = xs.length ∧ Aside0 (HoldI wr2 g dj) ∧ Aside0 (∀ x ∈ dj, x < N) ∧ Aside0 (w.grownBy wr2 (some g)) ∧ Aside0 (insIn cf a j dj = insIn cf a i dk))
      case atStart => exact ⟨i, dk, rfl, by omega, Nat.le_refl _, Nat.le_refl _, hsk, HH, HX, HG, ⟨rfl⟩⟩
      case round =>
        clear HH HX HG
        obtain ⟨j, dj, rfl, haj, hji, hg2, hsj, HH, HX, HG, HI⟩ := hrel
        have HO2 := Aside0.mk (show insOut cf a (b - (i + 1)) (i + 1) (insIn cf a j dj) = insS cf a b xs by rw [HI.out, ← HO.out, show b - i = (b - (i + 1)) + 1 by omega]; rfl)
        by_cases hja : a < j
        · obtain ⟨jp, rfl⟩ : ∃ jp, j = jp + 1 := ⟨j - 1, by omega⟩
          obtain ⟨xj, hxj⟩ : ∃ x, dj.getD (jp + 1) 0 = x := ⟨_, rfl⟩
          obtain ⟨xp, hxp⟩ : ∃ x, dj.getD jp 0 = x := ⟨_, rfl⟩
          have hjl : jp + 1 < dj.length := by omega
          have e1 : dj[jp + 1]? = some xj := by rw [← hxj, List.getD_eq_getElem?_getD, List.getElem?_eq_getElem hjl]; rfl
          have e2 : dj[jp]? = some xp := by rw [← hxp, List.getD_eq_getElem?_getD, List.getElem?_eq_getElem (by omega)]; rfl
          have cj := HH.out.cell e1
          have cp := HH.out.cell e2
          have fj := HH.out.free (jp + 1)
          have fp := HH.out.free jp
          have nj := HX.out xj (List.mem_of_getElem? e1)
          have np := HX.out xp (List.mem_of_getElem? e2)
          have hjaz : (a : Int) < (jp : Int) + 1 := by omega
          have hwp : IntKind.i64.wrap (jp : Int) = (jp : Int) := by rw [IntKind.wrap_i64]; omega
          have jz : (jp : Int) + 1 < (xs.length : Int) := by omega
          have jz1 : (jp : Int) < (xs.length : Int) := by omega
          have p0 : (0 : Int) ≤ (jp : Int) + 1 := by omega
          have e0 : ((jp : Int) + 1).toNat = jp + 1 := by omega
          have E1 := Aside0.mk e1
          have E2 := Aside0.mk e2
          clear e1 e2
          by_cases hlv : cf xj xp < 0
          · go_wp2_with fail
            go_region_held3 (fun w' => w'.cell? ⟨g, jp + 1, none⟩ = some (enN xj) ∧ w'.cell? ⟨g, jp, none⟩ = some (enN xp))
              (first | go_keep | (refine ⟨?_, ?_⟩ <;> refine pw_cell_below hbl ?_ <;> first | assumption | (simp only [*]; done)))
              (first | (refine (HC.out _ xj xp (by first | exact HG.out | exact gr_drew HG.out) nj np).mono ?_; rintro e w' ⟨rfl, hbl⟩; have n0_ := Aside0.mk (gr_below (by first | exact HG.out | exact gr_drew HG.out) hbl); have n1_ := Aside0.mk (HoldI.below (by first | exact HH.out | exact HH.out.drew) hbl); clear HG HH; have HG := n0_; have HH := n1_; clear n0_ n1_))
            clear cj cp fj fp
            go_wp2_with fail
            have cj := HH.out.cell E1.out
            have cp := HH.out.cell E2.out
            have fj := HH.out.free (jp + 1)
            have fp := HH.out.free jp
            obtain ⟨j1, hj1⟩ : ∃ j1, j1 = jp + 1 := ⟨_, rfl⟩
            rw [← hj1] at cj fj e0
            have J1 := Aside0.mk hj1
            clear hj1
            go_region
            all_goals go_wp2
            have hs1 := HoldI.set (HoldI.set HH.out j1 xp) jp xj
            have hg1 := gr_set (j := jp) (gr_set (j := j1) HG.out (enN xp)) (enN xj)
            have hsw : swp1 dj jp = (dj.set j1 xp).set jp xj := by unfold swp1; rw [hxj, hxp, J1.out]
            rw [← hsw] at hs1
            go_roundg jp
            case measure => omega
            case rel =>
              refine ⟨jp, swp1 dj jp, by first | rfl | go_num | (congr 1; omega), by omega, by omega, Nat.le_refl _, by rw [swp1_length]; exact hsj, ⟨by first | exact hs1 | exact hs1.drew⟩, ⟨fun x hx => HX.out x (swp1_mem hjl hx)⟩, ⟨by first | exact hg1 | exact gr_drew hg1⟩, ⟨?_⟩⟩
              rw [← HI.out, insIn, if_pos ⟨by omega, by rw [hxj, hxp]; exact hlv⟩]
          · have hO := HO2.out
            rw [insIn, if_neg (fun h => hlv (by rw [← hxj, ← hxp]; exact h.2))] at hO
            go_wp2_with fail
            go_region_held3 (fun w' => w'.cell? ⟨g, jp + 1, none⟩ = some (enN xj) ∧ w'.cell? ⟨g, jp, none⟩ = some (enN xp))
              (first | go_keep | (refine ⟨?_, ?_⟩ <;> refine pw_cell_below hbl ?_ <;> first | assumption | (simp only [*]; done)))
              (first | (refine (HC.out _ xj xp (by first | exact HG.out | exact gr_drew HG.out) nj np).mono ?_; rintro e w' ⟨rfl, hbl⟩; have n0_ := Aside0.mk (gr_below (by first | exact HG.out | exact gr_drew HG.out) hbl); have n1_ := Aside0.mk (HoldI.below (by first | exact HH.out | exact HH.out.drew) hbl); clear HG HH; have HG := n0_; have HH := n1_; clear n0_ n1_))
            go_wp2
            go_roundg (b - (i + 1))
            case measure => omega
            case rel => exact ⟨i + 1, dj, by go_num, by omega, by omega, by omega, hsj, HH, HX, HG, ⟨hO⟩⟩
        · have hjaz : decide ((j : Int) > (a : Int)) = false := decide_eq_false (by omega)
          have hjaz' : ¬ (a : Int) < (j : Int) := by omega
          have hO := HO2.out
          have hin : insIn cf a j dj = dj := by
            cases j with
            | zero => rfl
            | succ j => rw [insIn, if_neg (fun h => hja h.1)]
          rw [hin] at hO
          go_wp2_with fail
          go_region
          all_goals go_wp2
          go_roundg (b - (i + 1))
          case measure => omega
          case rel => exact ⟨i + 1, dj, by go_num, by omega, by omega, by omega, hsj, ⟨by first | exact HH.out | exact HH.out.drew⟩, HX, ⟨by first | exact HG.out | exact gr_drew HG.out⟩, ⟨hO⟩⟩
    · have hltz : ¬ (i : Int) < (b : Int) := by omega
      go_wp2
      go_end0
      exact ⟨rfl, HG.out, by rw [← HO.out, show b - i = 0 by omega]; exact HH.out⟩
end Go.Proofs.Ythghflgmeepnlaa.Pa
namespace Go.Proofs.Ythghflgmeepnlaa.Pa
open Go.RowKit Go.Proofs.YthghflgmeepnlaaW.PrintWords Go.Proofs.YthghflgmeepnlaaW.PrintLast Go.Proofs.YthghflgmeepnlaaW.PrintMore
set_option linter.unusedVariables false
set_option linter.unusedSimpArgs false

/-- A place's order, turned if its mark says so. -/
def sgD (d : List Bool) (n : Int) : Int := if d.headD false = true then -n else n
/-- How two keys stand, each place as its mark says. -/
def ordD : List S33 → List S33 → List Bool → Int
  | [], [], _ => 0
  | [], _ :: _, d => sgD d (-1)
  | _ :: _, [], d => sgD d 1
  | x :: xs, y :: ys, d => if ordS x y = 0 then ordD xs ys d.tail else sgD d (ordS x y)
theorem ordD_nil : ∀ a b : List S33, ordD a b [] = ordL a b
  | [], [] => rfl
  | [], _ :: _ => rfl
  | _ :: _, [] => rfl
  | x :: xs, y :: ys => by
    unfold ordD ordL
    rw [show ([] : List Bool).tail = [] from rfl, ordD_nil xs ys]
    rfl

theorem order_tail (x0 x1 : List S33) (x2 : List Bool) (i : Nat) (n : Int) (mxl : Int) (hn : n = 0 ∨ n = 1 ∨ n = -1) (hn0 : n ≠ 0) (hl : x2.length < 1000000000) (k : Nat) (j : Int) :
    rows_order.j1 (k + 1) x0 x1 x2 (i : Int) n mxl j = some (sgD (x2.drop i) n) := by
  unfold rows_order.j1 sgD
  rw [if_neg hn0]
  by_cases h : (i : Int) < (x2.length : Int)
  · rw [if_pos h, if_pos (by omega)]
    have hi : i < x2.length := by omega
    have e : rdOf false x2 (i : Int) = (x2.drop i).headD false := by
      unfold rdOf
      rw [List.drop_eq_getElem_cons hi]
      simp [List.getD_eq_getElem?_getD, List.getElem?_eq_getElem hi]
    rw [e]
    have hw : wrap64 (-n) = -n := by unfold wrap64; omega
    rw [hw]
    split <;> rfl
  · rw [if_neg h, List.drop_eq_nil_of_le (by omega)]
    rfl

theorem order_l0 (x0 x1 : List S33) (x2 : List Bool) (h0 : x0.length < 1000000000) (h1 : x1.length < 1000000000) (hl : x2.length < 1000000000) (m : Int) (hm : m = mx (x0.length : Int) (x1.length : Int)) :
    ∀ (d i k : Nat), (i : Int) + d = m → rows_order.l0 (2 * d + 8 + k) x0 x1 x2 m (i : Int) = some (ordD (x0.drop i) (x1.drop i) (x2.drop i)) := by
  have hmx : (x0.length : Int) ≤ m ∧ (x1.length : Int) ≤ m ∧ (m = x0.length ∨ m = x1.length) := by rw [hm]; unfold mx; split <;> omega
  intro d
  induction d with
  | zero =>
    intro i k hi
    rw [show 2 * 0 + 8 + k = (k + 7) + 1 by omega]
    unfold rows_order.l0
    rw [if_neg (by omega), List.drop_eq_nil_of_le (by omega), List.drop_eq_nil_of_le (by omega)]
    rfl
  | succ d ih =>
    intro i k hi
    rw [show 2 * (d + 1) + 8 + k = ((2 * d + 8 + k) + 1) + 1 by omega]
    unfold rows_order.l0
    rw [if_pos (by omega)]
    by_cases c0 : (i : Int) ≥ (x0.length : Int)
    · rw [if_pos c0, order_tail x0 x1 x2 i (-1) m (by omega) (by omega) hl]
      have : i < x1.length := by omega
      rw [show x0.drop i = [] from List.drop_eq_nil_of_le (by omega), List.drop_eq_getElem_cons this]
      rfl
    · rw [if_neg c0]
      have hi0 : i < x0.length := by omega
      by_cases c1 : (i : Int) ≥ (x1.length : Int)
      · rw [if_pos c1, order_tail x0 x1 x2 i 1 m (by omega) (by omega) hl]
        rw [show x1.drop i = [] from List.drop_eq_nil_of_le (by omega), List.drop_eq_getElem_cons hi0]
        rfl
      · rw [if_neg c1, if_pos (by omega), if_pos (by omega), if_pos (by omega)]
        have hi1 : i < x1.length := by omega
        rw [show 2 * d + 8 + k + 1 = (2 * d + 8 + k - 3) + 4 by omega, order_is, Option.bind_some]
        rw [List.drop_eq_getElem_cons hi0, List.drop_eq_getElem_cons hi1]
        have e0 : rd_T33 x0 (i : Int) = x0[i] := by unfold rd_T33; simp [List.getD_eq_getElem?_getD, List.getElem?_eq_getElem hi0]
        have e1 : rd_T33 x1 (i : Int) = x1[i] := by unfold rd_T33; simp [List.getD_eq_getElem?_getD, List.getElem?_eq_getElem hi1]
        rw [e0, e1]
        show rows_order.j1 _ x0 x1 x2 (i : Int) (ordS x0[i] x1[i]) m (i : Int) = _
        unfold ordD
        have hsg := lin_val.sg x0[i] x1[i]
        by_cases c2 : ordS x0[i] x1[i] = 0
        · rw [if_pos c2, c2]
          rw [show 2 * d + 8 + k - 3 + 4 = (2 * d + 8 + k) + 1 by omega]
          unfold rows_order.j1
          rw [if_pos rfl, show wrap64 ((i : Int) + 1) = ((i + 1 : Nat) : Int) by unfold wrap64; omega]
          rw [ih (i + 1) k (by omega), List.tail_drop]
        · rw [if_neg c2, show 2 * d + 8 + k - 3 + 4 = (2 * d + 8 + k) + 1 by omega]
          exact order_tail x0 x1 x2 i _ m (by omega) c2 hl _ _

theorem rorderD (x0 x1 : List S33) (x2 : List Bool) (h0 : x0.length < 1000000000) (h1 : x1.length < 1000000000) (hl : x2.length < 1000000000) : ∃ k, rows_order.f k x0 x1 x2 = some (ordD x0 x1 x2) := by
  refine ⟨2 * (mx (x0.length : Int) (x1.length : Int)).toNat + 8 + 0, ?_⟩
  unfold rows_order.f
  have := order_l0 x0 x1 x2 h0 h1 hl _ rfl (mx (x0.length : Int) (x1.length : Int)).toNat 0 0 (by unfold mx; split <;> omega)
  simpa using this

/-- rows.order's contract. -/
theorem rows_order_calls (A0 : Option Addr) (c0 : Nat) (l0 : List (S33)) (A1 : Option Addr) (c1 : Nat) (l1 : List (S33)) (A2 : Option Addr) (c2 : Nat) (l2 : List Bool) (w : World) (hr0 : Kd.C k33 w A0 l0.length l0) (hc0 : l0.length ≤ c0) (hr1 : Kd.C k33 w A1 l1.length l1) (hc1 : l1.length ≤ c1) (hr2 : Kd.C Kd.bool w A2 l2.length l2) (hc2 : l2.length ≤ c2)
    (h0 : l0.length < 1000000000) (h1 : l1.length < 1000000000) (hl : l2.length < 1000000000) :
    Calls Try.prog 96 #[.slice A0 l0.length c0, .slice A1 l1.length c1, .slice A2 l2.length c2] w fun e w' => e = .returned (.int .i64 (ordD l0 l1 l2)) ∧ Below w.heap.size w w' := by
  obtain ⟨k, hk⟩ := rorderD l0 l1 l2 h0 h1 hl
  exact rows_order.calls k A0 c0 l0 A1 c1 l1 A2 c2 l2 _ w hr0 hc0 hr1 hc1 hr2 hc2 hk
end Go.Proofs.Ythghflgmeepnlaa.Pa
namespace Go.Proofs.Ythghflgmeepnlaa.Pa
open Go.RowKit Go.Proofs.YthghflgmeepnlaaW.PrintWords Go.Proofs.YthghflgmeepnlaaW.PrintLast Go.Proofs.YthghflgmeepnlaaW.PrintMore
set_option linter.unusedVariables false
set_option linter.unusedSimpArgs false

/-- A place's key. -/
def keyL (keys : List (List S33)) (i : Nat) : List S33 := keys.getD i []
theorem keyL_rd (keys : List (List S33)) (i : Nat) : rd_L4 keys (i : Int) = keyL keys i := by unfold rd_L4 keyL; simp
set_option maxHeartbeats 4000000 in
set_option maxRecDepth 100000 in
theorem key_calls (i kb : Nat) (Ak : Option Addr) (ck : Nat) (keys : List (List S33)) (w : World) (hbox : w.cell? ⟨kb, 0, none⟩ = some (.slice Ak keys.length ck)) (hk : Kd.C (Kd.slice 33 k33) w Ak keys.length keys) :
    ∃ A c, (keyL keys i).length ≤ c ∧ Kd.C k33 w A (keyL keys i).length (keyL keys i) ∧ ∀ W, Below w.heap.size w W → Calls Try.prog 93 #[enN i, .pointer (some ⟨kb, 0, none⟩)] W fun e w' => e = .returned (.slice A (keyL keys i).length c) ∧ Below W.heap.size W w' := by
  by_cases c1 : (i : Int) < (keys.length : Int)
  · have c1b : decide ((i : Int) < (keys.length : Int)) = true := decide_eq_true c1
    have c2b : decide ((0 : Int) ≤ i) = true := decide_eq_true (by omega)
    have p0 : (0 : Int) ≤ i := by omega
    obtain ⟨ad, A1, c, e1, hx1, hl1, hi1⟩ := at_L4 hk (i : Int) p0 c1
    cases e1
    rw [keyL_rd] at hx1 hl1 hi1
    simp only [Int.toNat_natCast] at hx1
    refine ⟨A1, c, hl1, hi1, fun W hW => ?_⟩
    have hx2 := pw_cell_below hW hx1
    have hb2 := pw_cell_below hW hbox
    have HB := Aside0.mk (Below.refl W.heap.size W)
    clear hx1 hbox hi1 hl1 hk hW
    go_enter Try.func93, Try.ntmps93
    go_wp2
    go_ret
    exact ⟨rfl, HB.out⟩
  · have c1b : decide ((i : Int) < (keys.length : Int)) = false := decide_eq_false c1
    have e0 : keyL keys i = [] := by unfold keyL; rw [List.getD_eq_getElem?_getD, List.getElem?_eq_none (by omega)]; rfl
    rw [e0]
    refine ⟨none, 0, Nat.le_refl _, ?_, fun W hW => ?_⟩
    · exact ⟨rfl, by simp, fun h => absurd h (by simp)⟩
    have hb2 := pw_cell_below hW hbox
    have HB := Aside0.mk (Below.refl W.heap.size W)
    clear hbox hk hW e0
    go_enter Try.func93, Try.ntmps93
    go_wp2
    go_ret
    exact ⟨rfl, HB.out⟩

set_option maxHeartbeats 8000000 in
set_option maxRecDepth 1000000 in
theorem cmp_calls (i j fb kb db : Nat) (Ak : Option Addr) (ck : Nat) (keys : List (List S33)) (Ad : Option Addr) (cd : Nat) (desc : List Bool) (w : World)
    (hf : w.cell? ⟨fb, 0, none⟩ = some (.func (.func 93) #[] #[.pointer (some ⟨kb, 0, none⟩)]))
    (hbox : w.cell? ⟨kb, 0, none⟩ = some (.slice Ak keys.length ck)) (hd : w.cell? ⟨db, 0, none⟩ = some (.slice Ad desc.length cd))
    (hk : Kd.C (Kd.slice 33 k33) w Ak keys.length keys) (hdc : Kd.C Kd.bool w Ad desc.length desc) (hdl : desc.length ≤ cd) (hkl : ∀ r ∈ keys, r.length < 1000000000) (hdn : desc.length < 1000000000) :
    Calls Try.prog 95 #[enN i, enN j, .pointer (some ⟨fb, 0, none⟩), .pointer (some ⟨db, 0, none⟩)] w fun e w' => e = .returned (.int .i64 (ordD (keyL keys i) (keyL keys j) desc)) ∧ Below w.heap.size w w' := by
  have hki : ∀ i, (keyL keys i).length < 1000000000 := fun i => by
    unfold keyL
    by_cases h : i < keys.length
    · rw [List.getD_eq_getElem?_getD, List.getElem?_eq_getElem h]; exact hkl _ (List.getElem_mem h)
    · rw [List.getD_eq_getElem?_getD, List.getElem?_eq_none (by omega)]; simp
  obtain ⟨Ai, ci, hli, hci, hi⟩ := key_calls i kb Ak ck keys w hbox hk
  obtain ⟨Aj, cj, hlj, hcj, hj⟩ := key_calls j kb Ak ck keys w hbox hk
  have HO := Aside0.mk (fun W (hW : Below w.heap.size w W) => rows_order_calls Ai ci (keyL keys i) Aj cj (keyL keys j) Ad cd desc W (Kd.C_below hci hW) hli (Kd.C_below hcj hW) hlj (Kd.C_below hdc hW) hdl (hki i) (hki j) hdn)
  have HB := Aside0.mk (Below.refl w.heap.size w)
  have HI := Aside0.mk hi
  have HJ := Aside0.mk hj
  clear hk hdc hbox hdl hkl hki hdn hli hci hi hlj hcj hj
  obtain ⟨ri, hri⟩ : ∃ r, r = keyL keys i := ⟨_, rfl⟩
  obtain ⟨rj, hrj⟩ : ∃ r, r = keyL keys j := ⟨_, rfl⟩
  rw [← hri] at HI
  rw [← hrj] at HJ
  rw [← hri, ← hrj] at HO ⊢
  clear hri hrj
  go_enter Try.func95, Try.ntmps95
  go_wp2_with fail
  go_region_held3 (fun w' => w'.cell? ⟨fb, 0, none⟩ = some (.func (.func 93) #[] #[.pointer (some ⟨kb, 0, none⟩)]) ∧ w'.cell? ⟨db, 0, none⟩ = some (.slice Ad desc.length cd))
    (first | go_keep | (refine ⟨?_, ?_⟩ <;> refine pw_cell_below hbl ?_ <;> first | assumption | (simp only [*]; done)))
    (first
      | (go_at_call 96; refine (HO.out _ (by first | exact HB.out | exact below_drew1 HB.out)).mono ?_; rintro e w' ⟨rfl, hbl⟩; have n0_ := Aside0.mk (below_step (by first | exact HB.out | exact below_drew1 HB.out) hbl); clear HB; have HB := n0_; clear n0_)
      | (go_at_call_of 93 i; refine (HI.out _ (by first | exact HB.out | exact below_drew1 HB.out)).mono ?_; rintro e w' ⟨rfl, hbl⟩; have n0_ := Aside0.mk (below_step (by first | exact HB.out | exact below_drew1 HB.out) hbl); clear HB; have HB := n0_; clear n0_)
      | (go_at_call_of 93 j; refine (HJ.out _ (by first | exact HB.out | exact below_drew1 HB.out)).mono ?_; rintro e w' ⟨rfl, hbl⟩; have n0_ := Aside0.mk (below_step (by first | exact HB.out | exact below_drew1 HB.out) hbl); clear HB; have HB := n0_; clear n0_))
  go_wp2
  go_ret
  exact ⟨rfl, HB.out⟩
end Go.Proofs.Ythghflgmeepnlaa.Pa
namespace Go.Proofs.Ythghflgmeepnlaa.Pa
open Go.RowKit Go.Proofs.YthghflgmeepnlaaW.PrintWords Go.Proofs.YthghflgmeepnlaaW.PrintLast Go.Proofs.YthghflgmeepnlaaW.PrintMore
set_option linter.unusedVariables false
set_option linter.unusedSimpArgs false

/-- What is asked of a comparison, from world w on, block g aside. -/
structure CmpOk (fk : Nat) (caps : Array Value) (cf : Nat → Nat → Int) (N g : Nat) (w : World) : Prop where
  enter : ∀ (x y : Nat) (W : World), Sem.run Try.prog (callFunc fk (#[enN x, enN y] ++ caps)) W = Result.ok (Next.enter fk (#[enN x, enN y] ++ caps)) W
  call : ∀ (W : World) (x y : Nat), w.grownBy W (some g) → x < N → y < N → Calls Try.prog fk (#[enN x, enN y] ++ caps) W fun e w' => e = .returned (.int .i64 (cf x y)) ∧ Below W.heap.size W w'
theorem gr_trans {w W W1 : World} {r : Option Nat} (h : w.grownBy W r) (k : W.grownBy W1 r) : w.grownBy W1 r :=
  ⟨k.os.trans h.os, k.tape.trans h.tape, k.output.trans h.output, Nat.le_trans h.size k.size, fun i hi hr => (k.block i (Nat.lt_of_lt_of_le hi h.size) hr).trans (h.block i hi hr)⟩
theorem CmpOk.later {fk : Nat} {caps : Array Value} {cf : Nat → Nat → Int} {N g : Nat} {w W : World} (h : CmpOk fk caps cf N g w) (hg : w.grownBy W (some g)) : CmpOk fk caps cf N g W :=
  ⟨h.enter, fun W1 x y hW hx hy => h.call W1 x y (gr_trans hg hW) hx hy⟩
theorem ins_calls' {fk : Nat} {caps : Array Value} {cf : Nat → Nat → Int} {N g : Nat} {w : World} (hc : CmpOk fk caps cf N g w) (cap a b : Nat) (xs : List Nat)
    (hh : HoldI w g xs) (hab : a ≤ b) (hb : b ≤ xs.length) (hsz : xs.length < 4611686018427387904) (hx : ∀ x ∈ xs, x < N) :
    Calls Try.prog 114 #[.slice (some ⟨g, 0, none⟩) xs.length cap, .int .i64 a, .int .i64 b, .func (.func fk) #[] caps] w fun e w' => e = .returned (.tuple #[]) ∧ w.grownBy w' (some g) ∧ HoldI w' g (insS cf a b xs) :=
  ins_calls fk caps cf N g cap a b xs w hh hab hb hsz hx hc.enter hc.call

set_option maxHeartbeats 4000000 in
set_option maxRecDepth 100000 in
theorem stable_small {fk : Nat} {caps : Array Value} {cf : Nat → Nat → Int} {N g : Nat} {w : World} (hc : CmpOk fk caps cf N g w) (cap : Nat) (xs : List Nat)
    (hh : HoldI w g xs) (hsz : xs.length < 20) (hx : ∀ x ∈ xs, x < N) :
    Calls Try.prog 113 #[.slice (some ⟨g, 0, none⟩) xs.length cap, .int .i64 xs.length, .func (.func fk) #[] caps] w fun e w' => e = .returned (.tuple #[]) ∧ w.grownBy w' (some g) ∧ HoldI w' g (insS cf 0 xs.length xs) := by
  have HI := Aside0.mk (ins_calls' hc cap 0 xs.length xs hh (Nat.zero_le _) (Nat.le_refl _) (by omega) hx)
  have c1 : decide ((20 : Int) ≤ (xs.length : Int)) = false := decide_eq_false (by omega)
  have c2 : decide ((20 : Int) < (xs.length : Int)) = false := decide_eq_false (by omega)
  have c3 : ¬ 20 ≤ xs.length := by omega
  have c4 : ¬ 20 < xs.length := by omega
  clear hc hh hx
  go_enter Try.func113, Try.ntmps113
  go_wp2
  refine wp_loop_rounds 1 ?_
  rw [rounds_succ]
  go_wp2_with fail
  refine HI.out.mono ?_
  rintro e w1 ⟨rfl, hg, hh⟩
  have HG := Aside0.mk hg
  have HH := Aside0.mk hh
  clear hg hh
  go_wp2
  refine wp_loop_rounds 1 ?_
  rw [rounds_succ]
  go_wp2
  go_end0
  exact ⟨rfl, HG.out, HH.out⟩

set_option maxHeartbeats 4000000 in
set_option maxRecDepth 100000 in
theorem sortfunc_small {fk : Nat} {caps : Array Value} {cf : Nat → Nat → Int} {N g : Nat} {w : World} (hc : CmpOk fk caps cf N g w) (cap : Nat) (xs : List Nat)
    (hh : HoldI w g xs) (hsz : xs.length < 20) (hx : ∀ x ∈ xs, x < N) :
    Calls Try.prog 94 #[.slice (some ⟨g, 0, none⟩) xs.length cap, .func (.func fk) #[] caps] w fun e w' => e = .returned (.tuple #[]) ∧ w.grownBy w' (some g) ∧ HoldI w' g (insS cf 0 xs.length xs) := by
  have HI := Aside0.mk (stable_small hc cap xs hh hsz hx)
  clear hc hh hx
  go_enter Try.func94, Try.ntmps94
  go_wp2_with fail
  refine HI.out.mono ?_
  rintro e w1 ⟨rfl, hg, hh⟩
  have HG := Aside0.mk hg
  have HH := Aside0.mk hh
  clear hg hh
  go_wp2
  go_end0
  exact ⟨rfl, HG.out, HH.out⟩
end Go.Proofs.Ythghflgmeepnlaa.Pa
namespace Go.Proofs.Ythghflgmeepnlaa.Pa
open Go.RowKit Go.Proofs.YthghflgmeepnlaaW.PrintWords Go.Proofs.YthghflgmeepnlaaW.PrintLast Go.Proofs.YthghflgmeepnlaaW.PrintMore
set_option linter.unusedVariables false
set_option linter.unusedSimpArgs false

theorem made_ints (n : Nat) : madeCells (Value.int .i64 0).cells (n * 1) = ((List.replicate n 0).map enN).toArray := by
  rw [Nat.mul_one]
  apply Array.ext'
  simp [madeCells, Value.cells]
  apply List.ext_getElem
  · simp
  · intro i h1 h2
    simp [Nat.mod_one]
theorem make_ints (n : Nat) (h : n < 1000000000) (w : World) :
    Sem.run Try.prog (Instr.makeSlice 23 (.int .i64 (n : Int)) (.int .i64 (n : Int))) w = Result.ok (.slice (some ⟨w.heap.size, 0, none⟩) n n) (w.alloc (.cells ((List.replicate n 0).map enN).toArray 3)) := by
  obtain ⟨i, hi, hz0, hz1, hz2⟩ := info_parts (show (Try.prog.info? 3).map (fun i => (i.zero, i.size, i.bytes)) = some (some (.int .i64 0), 1, 8) from by kernel_rfl)
  have := run_make (P := Try.prog) w 23 3 i (.int .i64 0) Try.underlying23 hi hz0 .i64 .i64 n n (by omega) (Int.le_refl _) (by rw [hz2]; omega) (by omega)
  rw [Int.toNat_natCast, hz1, made_ints] at this
  exact this

theorem al_size (w : World) (o : Obj) : (w.alloc o).heap.size = w.heap.size + 1 := by show (w.heap.push o).size = _; simp
theorem al3 (w : World) (a b c : Obj) : (((w.alloc a).alloc b).alloc c).heap[w.heap.size]? = some a ∧ (((w.alloc a).alloc b).alloc c).heap[w.heap.size + 1]? = some b ∧ (((w.alloc a).alloc b).alloc c).heap[w.heap.size + 2]? = some c := by
  refine ⟨?_, ?_, ?_⟩
  · rw [heap_alloc_old _ c (by rw [al_size, al_size]; omega)]; exact heap_alloc2_old w a b
  · rw [heap_alloc_old _ c (by rw [al_size, al_size]; omega)]; exact heap_alloc2_new w a b
  · have := heap_alloc_new ((w.alloc a).alloc b) c
    rwa [al_size, al_size] at this

/-- The two boxes of a call, and what lay ahead of it. -/
structure Boxes (w : World) (kv dv : Value) (W : World) : Prop where
  kb : W.heap[w.heap.size]? = some (.cells #[kv] 58 (0, 0))
  db : W.heap[w.heap.size + 1]? = some (.cells #[dv] 59 (0, 0))
  below : Below w.heap.size w W
theorem Boxes.grown {w W W1 : World} {kv dv : Value} (h : Boxes w kv dv W) (hg : W.grownBy W1 (some (w.heap.size + 2))) : Boxes w kv dv W1 :=
  ⟨(hg.block _ (lt_of_block h.kb) (by simp)).trans h.kb, (hg.block _ (lt_of_block h.db) (by simp)).trans h.db, pw_below_grown h.below _ h.below.size hg (fun k hk => by injection hk with hk; omega)⟩
theorem Boxes.later {w W W1 : World} {kv dv : Value} (h : Boxes w kv dv W) (hb : Below W.heap.size W W1) : Boxes w kv dv W1 :=
  ⟨(hb.block _ (lt_of_block h.kb)).trans h.kb, (hb.block _ (lt_of_block h.db)).trans h.db, below_step h.below hb⟩

theorem cmp_ok {W : World} {fb kb db g N b1 b2 : Nat} {A1 A2 : Option Addr} {c1 c2 : Nat} {keys : List (List S33)} {desc : List Bool} {ok1 ok2 : Nat → Prop}
    (hf : W.heap[fb]? = some (.cells #[.func (.func 93) #[] #[.pointer (some ⟨kb, 0, none⟩)]] 100 (0, 0)))
    (hk : W.heap[kb]? = some (.cells #[.slice A1 keys.length c1] 58 (0, 0))) (hd : W.heap[db]? = some (.cells #[.slice A2 desc.length c2] 59 (0, 0)))
    (nf : fb ≠ g) (nk : kb ≠ g) (nd : db ≠ g) (h1 : Kd.V (Kd.slice 33 k33) 22 W b1 ok1 (.slice A1 keys.length c1) keys) (h2 : Kd.V Kd.bool 4 W b2 ok2 (.slice A2 desc.length c2) desc)
    (n1 : ∀ k, ok1 k → k ≠ g) (n2 : ∀ k, ok2 k → k ≠ g) (hkl : ∀ r ∈ keys, r.length < 1000000000) (hdn : desc.length < 1000000000) :
    CmpOk 95 #[.pointer (some ⟨fb, 0, none⟩), .pointer (some ⟨db, 0, none⟩)] (fun i j => ordD (keyL keys i) (keyL keys j) desc) N g W := by
  refine ⟨fun x y W1 => enter_of Try.func95 (by kernel_rfl) (by kernel_rfl) _ W1, fun W1 x y hW _ _ => ?_⟩
  have e : (#[enN x, enN y] ++ #[Value.pointer (some ⟨fb, 0, none⟩), Value.pointer (some ⟨db, 0, none⟩)]) = #[enN x, enN y, Value.pointer (some ⟨fb, 0, none⟩), Value.pointer (some ⟨db, 0, none⟩)] := rfl
  rw [e]
  have r1 := Kd.V_reads' (Kd.V_grown h1 hW (fun k hk he => n1 k hk (by injection he)))
  have r2 := Kd.V_reads' (Kd.V_grown h2 hW (fun k hk he => n2 k hk (by injection he)))
  exact cmp_calls x y fb kb db A1 c1 keys A2 c2 desc W1 (cell_of_one ((hW.block _ (lt_of_block hf) (fun he => nf (by injection he))).trans hf))
    (cell_of_one ((hW.block _ (lt_of_block hk) (fun he => nk (by injection he))).trans hk)) (cell_of_one ((hW.block _ (lt_of_block hd) (fun he => nd (by injection he))).trans hd))
    r1.2.2 r2.2.2 r2.2.1 hkl hdn

set_option maxHeartbeats 8000000 in
set_option maxRecDepth 1000000 in
theorem Sort_calls (P0_ P1_ P2_ : Nat → Prop) (A0 : Option Addr) (c0 : Nat) (l0 : List (List S33)) (A1 : Option Addr) (c1 : Nat) (keys : List (List S33)) (A2 : Option Addr) (c2 : Nat) (desc : List Bool) (w : World)
    (hs0 : Kd.V (Kd.slice 33 k33) 22 w w.heap.size (fun k_ => P0_ k_) (.slice A0 l0.length c0) l0)
    (hs1 : Kd.V (Kd.slice 33 k33) 22 w w.heap.size (fun k_ => P1_ k_) (.slice A1 keys.length c1) keys)
    (hs2 : Kd.V Kd.bool 4 w w.heap.size (fun k_ => P2_ k_) (.slice A2 desc.length c2) desc)
    (hl : l0.length < 1000000000) (hkl : ∀ r ∈ keys, r.length < 1000000000) (hdn : desc.length < 1000000000)
    (ys : List Nat) (hyl : ys.length = l0.length) (hys : ∀ y ∈ ys, y < l0.length)
    (hsort : ∀ (fk : Nat) (caps : Array Value) (g : Nat) (W : World), CmpOk fk caps (fun i j => ordD (keyL keys i) (keyL keys j) desc) l0.length g W → HoldI W g (List.range l0.length) →
      Calls Try.prog 94 #[.slice (some ⟨g, 0, none⟩) l0.length l0.length, .func (.func fk) #[] caps] W fun e w' => e = .returned (.tuple #[]) ∧ W.grownBy w' (some g) ∧ HoldI w' g ys) :
    Calls Try.prog 57 #[.slice A0 l0.length c0, .slice A1 keys.length c1, .slice A2 desc.length c2] w fun e w' => ∃ v0_ : Value, e = .returned (v0_) ∧ Kd.N (Kd.slice 33 k33) 22 w' w.heap.size (fun k_ => (P0_ k_ ∨ w.heap.size ≤ k_)) v0_ (ys.map (keyL l0)) ∧ Below w.heap.size w w' := by
  have hmk := make_ints l0.length hl
  have hmf : ∀ (fn : Fn) (first cap : Array Value) (w : World), (Instr.makeFunc fn first cap).run Try.prog w = .ok (.func fn first cap) w := fun _ _ _ _ => rfl
  have HV0 := Aside0.mk (Kd.V_bound hs0)
  have HV1 := Aside0.mk (Kd.V_bound hs1)
  have HV2 := Aside0.mk (Kd.V_bound hs2)
  have HB := Aside0.mk (Below.refl w.heap.size w)
  have HS := Aside0.mk hsort
  have HY := Aside0.mk hys
  have HYL := Aside0.mk hyl
  have HKL := Aside0.mk hkl
  have HDN := Aside0.mk hdn
  have HL := Aside0.mk hl
  clear hs0 hs1 hs2 hsort hys hyl hkl hdn hl
  go_enter Try.func57, Try.ntmps57
  go_wp2_with fail
  obtain ⟨ha1, ha2, ha3⟩ := al3 w (Obj.cells #[Value.slice A1 keys.length c1] 58) (Obj.cells #[Value.slice A2 desc.length c2] 59) (Obj.cells (Array.replicate l0.length (enN 0)) 3)
  have HX := Aside0.mk (show Boxes w (.slice A1 keys.length c1) (.slice A2 desc.length c2) (((w.alloc (Obj.cells #[Value.slice A1 keys.length c1] 58)).alloc (Obj.cells #[Value.slice A2 desc.length c2] 59)).alloc (Obj.cells (Array.replicate l0.length (enN 0)) 3)) from ⟨ha1, ha2, below_alloc (below_alloc (below_alloc HB.out _) _) _⟩)
  have HH := Aside0.mk (show HoldI (((w.alloc (Obj.cells #[Value.slice A1 keys.length c1] 58)).alloc (Obj.cells #[Value.slice A2 desc.length c2] 59)).alloc (Obj.cells (Array.replicate l0.length (enN 0)) 3)) (w.heap.size + 2) (List.range 0 ++ List.replicate (l0.length - 0) 0) by
    unfold HoldI
    rw [ha3]
    congr 2
    apply Array.ext'
    simp)
  clear ha1 ha2 ha3
  generalize (((w.alloc (Obj.cells #[Value.slice A1 keys.length c1] 58)).alloc (Obj.cells #[Value.slice A2 desc.length c2] 59)).alloc (Obj.cells (Array.replicate l0.length (enN 0)) 3)) = W1 at HX HH ⊢
  obtain ⟨g, hgE⟩ : ∃ g, g = w.heap.size + 1 + 1 := ⟨_, rfl⟩
  have HGE := Aside0.mk (show g = w.heap.size + 2 from hgE)
  rw [← HGE.out] at HH
  rw [← hgE]
  clear hgE
  go_loopg [18] l0.length (fun kq v18 w' => ∃ i : Nat, v18 = .int .i64 (i : Int) ∧ Aside0 (i + kq = l0.length) ∧ Aside0 (HoldI w' g (List.range i ++ List.replicate (l0.length - i) 0)) ∧ Aside0 (Boxes w (.slice A1 keys.length c1) (.slice A2 desc.length c2) w'))
  case atStart => exact ⟨0, rfl, ⟨by simp⟩, HH, HX⟩
  case round =>
    clear HH HX
    obtain ⟨i, rfl, HI, HH, HX⟩ := hrel
    by_cases c2 : (i : Int) < (l0.length : Int)
    · have c2b : decide ((i : Int) < (l0.length : Int)) = true := decide_eq_true c2
      obtain ⟨k1, rfl⟩ : ∃ k1, gk = k1 + 1 := ⟨gk - 1, by have := HI.out; omega⟩
      have p0 : (0 : Int) ≤ i := by omega
      have hli := HL.out
      have HW := Aside0.mk (show wrap64 ((i : Int) + 1) = ((i + 1 : Nat) : Int) by unfold wrap64; omega)
      clear hli
      have hx : (List.range i ++ List.replicate (l0.length - i) 0)[i]? = some 0 := by
        rw [List.getElem?_append_right (by simp), List.length_range, Nat.sub_self, List.getElem?_replicate, if_pos (by omega)]
      have hc1 := HH.out.cell hx
      have hf1 := HH.out.free i
      clear hx
      have HN := Aside0.mk (show HoldI (wr.setCell ⟨g, i, none⟩ (enN i)) g (List.range (i + 1) ++ List.replicate (l0.length - (i + 1)) 0) by
        have h1 := HH.out.set i i
        rwa [List.set_append_right _ _ (by simp), List.length_range, Nat.sub_self, show l0.length - i = (l0.length - (i + 1)) + 1 by omega, List.replicate_succ, List.set_cons_zero, List.append_cons, ← List.range_succ] at h1)
      have HXN := Aside0.mk (Boxes.grown HX.out (show wr.grownBy (wr.setCell ⟨g, i, none⟩ (enN i)) (some (w.heap.size + 2)) by rw [← HGE.out]; exact gr_set ⟨rfl, rfl, rfl, Nat.le_refl _, fun _ _ _ => rfl⟩ _))
      go_wp2
      go_roundg k1
      case measure => omega
      case rel => exact ⟨i + 1, by rw [HW.out], ⟨by have := HI.out; omega⟩, HN, HXN⟩
    · have c2b : decide ((i : Int) < (l0.length : Int)) = false := decide_eq_false c2
      have e13 : i = l0.length := by have := HI.out; omega
      subst e13
      have HH2 := Aside0.mk (show HoldI wr g (List.range l0.length) by have h1 := HH.out; rwa [Nat.sub_self, List.replicate_zero, List.append_nil] at h1)
      clear HH
      have hna : (wr.alloc (.cells #[.nilFunc] 100)).heap[wr.heap.size]? = some (.cells #[.nilFunc] 100 (0, 0)) := heap_alloc_new _ _
      have hca := cell_of_one hna
      have hfa := free_of_one hna
      obtain ⟨F, hF⟩ : ∃ F, F = Value.func (Fn.func 93) #[] #[Value.pointer (some { block := w.heap.size, off := 0 })] := ⟨_, rfl⟩
      have hnF := one_setCell (u := F) hna
      have hBF : Below wr.heap.size wr (wr.alloc (.cells #[F] 100)) := (Below.refl _ _).alloc (Nat.le_refl _) _
      have hNF : (wr.alloc (.cells #[F] 100)).heap[wr.heap.size]? = some (.cells #[F] 100 (0, 0)) := heap_alloc_new _ _
      rw [hF] at hNF hBF
      have HBF := Aside0.mk hBF
      have HNF := Aside0.mk hNF
      clear hna hnF hF hNF hBF
      go_wp2_with fail
      generalize hWW : (wr.alloc (Obj.cells #[Value.func (Fn.func 93) #[] #[Value.pointer (some { block := w.heap.size, off := 0 })]] 100)) = W2 at HBF HNF ⊢
      clear hWW
      have HX2 := Aside0.mk (HX.out.later HBF.out)
      have HH3 := Aside0.mk (HH2.out.below HBF.out)
      have HFB := Aside0.mk (show wr.heap.size ≠ g by have := HH2.out.lt; omega)
      have hge := HGE.out
      have HCK := cmp_ok (N := l0.length) HNF.out HX2.out.kb HX2.out.db HFB.out (by omega) (by omega) (Kd.V_below HV1.out HX2.out.below) (Kd.V_below HV2.out HX2.out.below) (fun k hk => by have := hk.2; omega) (fun k hk => by have := hk.2; omega) HKL.out HDN.out
      refine (HS.out _ _ _ _ HCK HH3.out).mono ?_
      rintro e w3 ⟨rfl, hg3, hh3⟩
      rw [hge] at hg3
      have HX3 := Aside0.mk (HX2.out.grown hg3)
      have HY3 := Aside0.mk hh3
      have HV3 := Aside0.mk (Kd.V_below HV0.out HX3.out.below)
      have HB3 := Aside0.mk HX3.out.below
      clear hge HCK hg3 hh3 HX HH2 HBF HNF HX2 HH3 HFB HV1 HV2 HS HKL HDN hmk hmf
      go_wp2_with fail
      go_loopg [10, 32] l0.length (fun kq v10 v32 w' => ∃ (i : Nat), v32 = .int .i64 (i : Int) ∧ Aside0 (i + kq = l0.length) ∧ Aside0 (HoldI w' g ys) ∧ Aside0 (Kd.V (Kd.slice 33 k33) 22 w' w.heap.size (fun k_ => P0_ k_ ∧ k_ < w.heap.size) (.slice A0 l0.length c0) l0) ∧ Aside0 (Kd.N (Kd.slice 33 k33) 22 w' w.heap.size (fun k_ => (P0_ k_ ∧ k_ < w.heap.size) ∨ g < k_) v10 ((ys.take i).map (keyL l0))) ∧ Aside0 (Below w.heap.size w w'))
      case atStart => exact ⟨0, rfl, ⟨by simp⟩, HY3, HV3, ⟨by simpa using Kd.N_nil _ _ _ _ _⟩, HB3⟩
      case round =>
        clear HY3 HV3 HB3 HX3
        obtain ⟨i, rfl, HI, HH, HV, HN, HB⟩ := hrel
        by_cases c3 : (i : Int) < (l0.length : Int)
        · have c3b : decide ((i : Int) < (l0.length : Int)) = true := decide_eq_true c3
          obtain ⟨k1, rfl⟩ : ∃ k1, gk = k1 + 1 := ⟨gk - 1, by have := HI.out; omega⟩
          have p0 : (0 : Int) ≤ i := by omega
          have hli := HL.out
          have HW := Aside0.mk (show wrap64 ((i : Int) + 1) = ((i + 1 : Nat) : Int) by unfold wrap64; omega)
          have hiy : i < ys.length := by have := HYL.out; omega
          obtain ⟨y, hy⟩ : ∃ y, ys[i]? = some y := ⟨ys[i], List.getElem?_eq_getElem hiy⟩
          have hyl := HY.out y (List.mem_of_getElem? hy)
          have hcy := HH.out.cell hy
          have p1 : (0 : Int) ≤ (y : Int) := by omega
          have q1 : (y : Int) < (l0.length : Int) := by omega
          have q1b : decide ((y : Int) < (l0.length : Int)) = true := decide_eq_true q1
          have HT := Aside0.mk (show (ys.take i).map (keyL l0) ++ [keyL l0 y] = (ys.take (i + 1)).map (keyL l0) by
            rw [List.take_add_one, hy]; simp)
          have HTL := Aside0.mk (show ((ys.take i).map (keyL l0)).length < 1000000000 by rw [List.length_map, List.length_take]; omega)
          clear hli hiy hy hyl
          obtain ⟨ad, Ay, cy, e1, hx1, hl1, hi1⟩ := at_L4 (Kd.V_reads' HV.out).2.2 (y : Int) p1 q1
          cases e1
          obtain ⟨ce, hce, hMe, hcc⟩ := Kd.V_get HV.out [] (y : Int) p1 q1
          obtain ⟨ua, uc, rfl, ul, ge⟩ := Kd.FK_slice_open hMe
          have hv := hcc 0 _ rfl
          rw [Nat.add_zero, show ((Kd.slice 33 k33)).sz = 1 from rfl, Nat.mul_one] at hv
          replace hv := Option.some.inj (hv.symm.trans hx1)
          injection hv with hva_ hvn_ hvc_
          rw [hva_] at ge
          rw [hvc_] at ul
          rw [show l0.getD (y : Int).toNat [] = keyL l0 y by simp [keyL]] at ge ul
          have HF := Aside0.mk (show Kd.V k33 33 _ w.heap.size _ (.slice Ay (keyL l0 y).length cy) (keyL l0 y) from Kd.V_mk ul ge)
          clear hva_ hvn_ hvc_ ge ul hcc hce hMe hi1 hl1
          rw [keyL_rd] at hx1
          simp only [Int.toNat_natCast] at hx1
          obtain ⟨Ao, co, eo⟩ := Kd.N_slice HN.out
          subst eo
          obtain ⟨x10, hx10⟩ : ∃ x, x = (ys.take i).map (keyL l0) := ⟨_, rfl⟩
          rw [← hx10] at HN HT HTL ⊢
          clear hx10
          go_wp2_with ((with_reducible refine gate_builtin (b := .append) (xs := #[.tmp 36, .tmp 41]) rfl ?_); at_builtin; refine Kd.N_append (Kd.slice 33 k33) (w0 := w) w.heap.size rfl (.tmp 36) (.tmp 41) 58 22 (.slice none 0 0) 24 rfl Try.underlying58 info22 rfl (by decide) (by omega) (.slice Ao x10.length co) x10 (keyL l0 y) [.slice Ay (keyL l0 y).length cy] (fun k_ => (P0_ k_ ∧ k_ < w.heap.size) ∨ g < k_) (fun k_ => P0_ k_ ∧ k_ < w.heap.size) rfl rfl ?aP ?aK ?aF ?aO ?aB ?aS ?aL ?_; (case aP => exact (Kd.FK_slice_mk (Kd.V_reads' HF.out).2.1 (Kd.V_F HF.out))); (case aK => exact (fun k hk => ⟨.inl hk, fun he => by have h1 := N_base HN.out k he.symm; have h2 := hk.2; omega⟩)); (case aB => exact HB.out); (case aF => exact (fun k hk => .inr (Nat.lt_of_lt_of_le HH.out.lt hk))); (case aO => exact HN.out); (case aS => exact below_size HB.out); (case aL => have := HTL.out; omega); intro v9 w9 ho hb hg hat; have HN9 := Aside0.mk ho; have HB9 := Aside0.mk hb; have HV9 := Aside0.mk (Kd.V_grown HV.out hg (fun k hk he => by have h1 := N_base HN.out k he.symm; have h2 := hk.2; omega)); have HH9 := Aside0.mk (show HoldI w9 g ys from (hg.block g HH.out.lt (fun he => by have h1 := HN.out.1 _ he.symm; have h2 := HGE.out; rcases h1 with h1 | h1 <;> omega)).trans HH.out); clear ho hb hg hat HN HB HV HF HH)
          go_roundg k1
          case measure => omega
          case rel => exact ⟨i + 1, by rw [HW.out], ⟨by have := HI.out; omega⟩, HH9, HV9, ⟨by rw [← HT.out]; exact HN9.out⟩, HB9⟩
        · have c3b : decide ((i : Int) < (l0.length : Int)) = false := decide_eq_false c3
          have hN := HN.out
          have hge := HGE.out
          rw [List.take_of_length_le (by have := HI.out; have := HYL.out; omega)] at hN
          have HN2 := Aside0.mk (Kd.N_mono (ok' := fun k_ => P0_ k_ ∨ w.heap.size ≤ k_) hN (fun k hk => hk.imp (fun h => h.1) (fun h => by omega)))
          obtain ⟨Ao, co, eo⟩ := Kd.N_slice HN2.out
          subst eo
          clear hN hge HN
          go_wp2
          go_ret
          exact ⟨_, rfl, by have h := HN2.out; rw [List.length_map] at h; exact h, HB.out⟩
end Go.Proofs.Ythghflgmeepnlaa.Pa
