/- The pure statement of CodeOrder: any two rows. -/
import Derived.Test.YthghflgmeepnlaaPaL8
import Derived.Test.YthghflgmeepnlaaQe
import Derived.Test.YthghflgmeepnlaaQd
namespace Go.Proofs.Ythghflgmeepnlaa.Pure
open Go.RowKit Go.Proofs.Ythghflgmeepnlaa.Pa Go.Proofs.YthghflgmeepnlaaW.PrintWords Go.Proofs.YthghflgmeepnlaaW.PrintLast
set_option linter.unusedVariables false
set_option linter.unusedSimpArgs false

theorem ints_is (x y : Int) : cordonref01_ints.f x y = some (cmpI x y) := by
  unfold cordonref01_ints.f cmpI
  by_cases h1 : x < y
  · rw [if_pos h1, if_pos h1]
  · by_cases h2 : y < x
    · rw [if_neg h1, if_neg h1, if_pos h2, if_pos h2]
    · rw [if_neg h1, if_neg h1, if_neg h2, if_neg h2]
theorem wrap_next (i : Nat) (h : i ≤ 100000) : wrap64 ((i : Int) + 1) = ((i + 1 : Nat) : Int) := by unfold wrap64; omega

theorem texts_is (a b : ByteArray) (ha : a.size ≤ 1100) (d : Nat) : ∀ (k i : Nat), i + d = a.size → i ≤ b.size →
    cordonref01_texts.l0 (k + 2 * d + 2) a b (i : Int) = some (cmpB ((txt a).drop i) ((txt b).drop i)) := by
  induction d with
  | zero =>
    intro k i hd hb
    rw [show k + 2 * 0 + 2 = (k + 1) + 1 from rfl, cordonref01_texts.l0, if_neg (by omega), cordonref01_texts.j1, if_neg (by simp), ints_is, Option.bind_some]
    rw [List.drop_eq_nil_of_le (show (txt a).length ≤ i by rw [txt_length]; omega)]
    by_cases h : i < b.size
    · obtain ⟨c, _, e⟩ := bt_cons h
      rw [e, cmpB_nil_cons]
      unfold cmpI; rw [if_pos (by omega)]
    · rw [List.drop_eq_nil_of_le (show (txt b).length ≤ i by rw [txt_length]; omega), cmpB_self]
      unfold cmpI; rw [if_neg (by omega), if_neg (by omega)]
  | succ d ih =>
    intro k i hd hb
    rw [show k + 2 * (d + 1) + 2 = (k + 2 * d + 2) + 1 + 1 from by omega, cordonref01_texts.l0, if_pos (by omega), cordonref01_texts.j1]
    obtain ⟨c, e1, e2⟩ := bt_cons (show i < a.size by omega)
    rw [e2]
    by_cases h : i < b.size
    · obtain ⟨c', e3, e4⟩ := bt_cons h
      rw [if_pos (decide_eq_true (by omega)), if_pos (by omega), if_pos (by omega), if_pos (by omega), e1, e3, e4, cmpB_cons, wrap_next i (by omega), ih k (i + 1) (by omega) (by omega)]
      by_cases h1 : c = c'
      · subst h1
        rw [if_neg (by omega), if_neg (by omega), if_pos rfl]
      · have h2 : ¬ c.toNat = c'.toNat := fun q => h1 (UInt8.toNat_inj.1 q)
        rw [if_neg h1]
        by_cases h3 : c.toNat < c'.toNat
        · rw [if_pos (by omega), if_pos h3]
        · rw [if_neg (by omega), if_pos (by omega), if_neg h3]
    · rw [if_neg (by simp; omega), ints_is, Option.bind_some]
      rw [List.drop_eq_nil_of_le (show (txt b).length ≤ i by rw [txt_length]; omega), cmpB_cons_nil]
      unfold cmpI; rw [if_neg (by omega), if_pos (by omega)]

theorem rorder_is (x y : S33) (hx : x.f2.size ≤ 1100) (k : Nat) : cordonref01_Order.f (k + 2202) x.f0 x.f1 x.f2 y.f0 y.f1 y.f2 = some (ordS x y) := by
  rw [ordS_txt]
  unfold cordonref01_Order.f
  have hI : ∀ a b : Int, cmpI a b = 0 ↔ a = b := fun a b => lin_int.zero a b
  by_cases h0 : x.f0 = y.f0
  · rw [if_pos h0, if_neg (show ¬ (cmpI x.f0 y.f0 ≠ 0) by simpa [hI] using h0)]
    by_cases h1 : x.f1 = y.f1
    · rw [if_pos h1, if_neg (show ¬ (cmpI x.f1 y.f1 ≠ 0) by simpa [hI] using h1)]
      have := texts_is x.f2 y.f2 hx x.f2.size (k + 2 * (1100 - x.f2.size)) 0 (by omega) (by omega)
      rw [show k + 2 * (1100 - x.f2.size) + 2 * x.f2.size + 2 = k + 2202 from by omega] at this
      unfold cordonref01_texts.f
      rw [Int.natCast_zero] at this
      rw [this]
      simp
    · rw [if_neg h1, if_pos (show cmpI x.f1 y.f1 ≠ 0 by simpa [hI] using h1), ints_is]; rfl
  · rw [if_neg h0, if_pos (show cmpI x.f0 y.f0 ≠ 0 by simpa [hI] using h0), ints_is]; rfl

theorem rd_mem (l : List S33) (i : Nat) (h : i < l.length) : rd_T33 l i ∈ l := by
  have e : rd_T33 l i = l[i] := by simp [rd_T33, List.getD, h]
  rw [e]; exact List.getElem_mem h

theorem rows_is (l0 l1 : List S33) (hs : ∀ x ∈ l0, x.f2.size ≤ 1100) (hl : l0.length ≤ 60) (d : Nat) : ∀ (k i : Nat), i + d = l0.length → i ≤ l1.length →
    cordonref02_Order.l0 (k + 2 * d + 2300) l0 l1 (i : Int) = some (ordL (l0.drop i) (l1.drop i)) := by
  induction d with
  | zero =>
    intro k i hd hb
    rw [show k + 2 * 0 + 2300 = (k + 2298) + 1 + 1 from rfl, cordonref02_Order.l0, if_neg (by omega), cordonref02_Order.j1, if_neg (by simp)]
    by_cases h : i < l1.length
    · rw [ordL_less l0 l1 i (by omega) h, if_pos (by omega)]
    · rw [ordL_end l0 l1 i (by omega) h, if_neg (by omega), if_neg (by omega)]
  | succ d ih =>
    intro k i hd hb
    rw [show k + 2 * (d + 1) + 2300 = (k + 2 * d + 2300) + 1 + 1 from by omega, cordonref02_Order.l0, if_pos (by omega), cordonref02_Order.j1]
    by_cases h : i < l1.length
    · rw [if_pos (decide_eq_true (by omega)), if_pos (by omega), if_pos (by omega), if_pos (by omega), ordL_step l0 l1 i (by omega) h, wrap_next i (by omega), ih k (i + 1) (by omega) (by omega)]
      rw [show k + 2 * d + 2300 = (k + 2 * d + 98) + 2202 from rfl, rorder_is _ _ (hs _ (rd_mem l0 i (by omega)))]
      by_cases g : ordS (rd_T33 l0 i) (rd_T33 l1 i) = 0 <;> simp [g]
    · rw [if_neg (by simp; omega), ordL_more l0 l1 i (by omega) h, if_neg (by omega), if_pos (by omega)]

theorem same_l0 (l0 l1 : List S33) (hl : l0.length ≤ 60) (he : l0.length = l1.length) (d : Nat) : ∀ (k i : Nat), i + d = l0.length →
    cordonref02_Same.l0 (k + d + 1) l0 l1 (i : Int) = some (decide (ordL (l0.drop i) (l1.drop i) = 0)) := by
  induction d with
  | zero =>
    intro k i hd
    rw [show k + 0 + 1 = k + 1 from rfl, cordonref02_Same.l0, if_neg (by omega), ordL_end l0 l1 i (by omega) (by omega)]
    rfl
  | succ d ih =>
    intro k i hd
    rw [show k + (d + 1) + 1 = (k + d + 1) + 1 from by omega, cordonref02_Same.l0, if_pos (by omega), if_pos (by omega), if_pos (by omega), ordL_step l0 l1 i (by omega) (by omega), wrap_next i (by omega), ih k (i + 1) (by omega)]
    have z := lin_val.zero (rd_T33 l0 i) (rd_T33 l1 i)
    unfold sameV at z
    by_cases h : ordS (rd_T33 l0 i) (rd_T33 l1 i) = 0
    · obtain ⟨h1, h2, h3⟩ := z.1 h
      rw [if_neg (by simp [h1, h2, h3]), if_pos h]
    · rw [if_pos, if_neg h]
      · simp [h]
      · have h9 : ¬ ((rd_T33 l0 i).f0 = (rd_T33 l1 i).f0 ∧ (rd_T33 l0 i).f1 = (rd_T33 l1 i).f1 ∧ (rd_T33 l0 i).f2.toList = (rd_T33 l1 i).f2.toList) := fun q => h (z.2 q)
        simp only [Bool.or_eq_true, Bool.not_eq_true', beq_eq_false_iff_ne, ne_eq]
        by_cases g1 : (rd_T33 l0 i).f0 = (rd_T33 l1 i).f0
        · by_cases g2 : (rd_T33 l0 i).f1 = (rd_T33 l1 i).f1
          · exact .inr (.inr fun g3 => h9 ⟨g1, g2, g3⟩)
          · exact .inr (.inl g2)
        · exact .inl g1

theorem ordL_len : ∀ a b : List S33, ordL a b = 0 → a.length = b.length
  | [], [], _ => rfl
  | [], _ :: _, h => by simp [ordL] at h
  | _ :: _, [], h => by simp [ordL] at h
  | x :: a, y :: b, h => by
    unfold ordL at h
    by_cases g : ordS x y = 0
    · rw [if_pos g] at h
      simp [ordL_len a b h]
    · rw [if_neg g] at h; exact absurd h g
theorem same_is (l0 l1 : List S33) (hl : l0.length ≤ 60) (k : Nat) : cordonref02_Same.f (k + 61) l0 l1 = some (decide (ordL l0 l1 = 0)) := by
  unfold cordonref02_Same.f
  by_cases h : l0.length = l1.length
  · have := same_l0 l0 l1 hl h l0.length (k + (60 - l0.length)) 0 (by omega)
    rw [show k + (60 - l0.length) + l0.length + 1 = k + 61 from by omega, Int.natCast_zero] at this
    rw [if_pos (by omega), this]; rfl
  · rw [if_neg (by omega), decide_eq_false (fun q => h (ordL_len _ _ q))]
theorem ordL_sg : ∀ a b : List S33, ordL a b = -1 ∨ ordL a b = 0 ∨ ordL a b = 1
  | [], [] => by simp [ordL]
  | [], _ :: _ => by simp [ordL]
  | _ :: _, [] => by simp [ordL]
  | x :: a, y :: b => by
    unfold ordL
    split
    · exact ordL_sg a b
    · exact lin_val.sg x y
theorem ordL_anti : ∀ a b : List S33, ordL b a = - ordL a b
  | [], [] => by simp [ordL]
  | [], _ :: _ => by simp [ordL]
  | _ :: _, [] => by simp [ordL]
  | x :: a, y :: b => by
    unfold ordL
    have h := lin_val.anti x y
    by_cases g : ordS x y = 0
    · rw [if_pos g, if_pos (by omega)]; exact ordL_anti a b
    · rw [if_neg g, if_neg (by omega)]; omega
theorem code_order (a b : List S33) (h : a.length ≤ 60) : code_Order.f a b = some (ordL a b) := by
  unfold code_Order.f
  rw [if_pos (by omega)]
  have := ordL_sg a b
  unfold cmpI
  rcases this with e | e | e <;> rw [e] <;> rfl

theorem CodeOrder (l0 : List S33) (hl0 : l0.length ≤ maxLen) (h0 : ∀ x ∈ l0, okv x) (l1 : List S33) (hl1 : l1.length ≤ maxLen) (h1 : ∀ x ∈ l1, okv x) : ∃ k, cordonlaw02_CodeOrder.f k l0 l1 = some true := by
  unfold maxLen at hl0 hl1
  refine ⟨l0.length + l1.length + 6000, ?_⟩
  unfold cordonlaw02_CodeOrder.f
  rw [show l0.length + l1.length + 6000 = (l1.length + 5999) + l0.length + 1 from by omega, few_is _ _ hl0, Option.bind_some]
  rw [show (l1.length + 5999) + l0.length + 1 = (l0.length + 5999) + l1.length + 1 from by omega, few_is _ _ hl1, Option.bind_some]
  have hal : ∀ n, 1024 ≤ n → cordonlaw02_alive.f n = some true := fun n hn => by
    rw [show n = (n - 1024) + 1024 from by omega]; exact alive_is _
  have hno : cordonlaw02_CodeOrder.j0 (l0.length + 5999 + l1.length + 1) l0 l1 true = some true := by
    rw [cordonlaw02_CodeOrder.j0, if_pos rfl, hal _ (by omega)]; rfl
  by_cases hf0 : few l0 = true
  case neg => rw [if_neg hf0]; exact hno
  rw [if_pos hf0]
  by_cases hf1 : few l1 = true
  case neg => rw [show (!few l1) = true by simpa using hf1]; exact hno
  rw [hf1]
  obtain ⟨hs0, hn0⟩ := few_true hf0
  obtain ⟨hs1, hn1⟩ := few_true hf1
  clear hno
  obtain ⟨K, hK, e⟩ : ∃ K, 5900 ≤ K ∧ l0.length + 5999 + l1.length + 1 = K + 1 := ⟨l0.length + 5999 + l1.length, by omega, rfl⟩
  rw [e, cordonlaw02_CodeOrder.j0, if_neg (by simp), code_order l0 l1 hn0, code_order l1 l0 hn1]
  have hr := rows_is l0 l1 hs0 hn0 l0.length (K - 2 * l0.length - 2300) 0 (by omega) (by omega)
  rw [show K - 2 * l0.length - 2300 + 2 * l0.length + 2300 = K from by omega, Int.natCast_zero] at hr
  unfold cordonref02_Order.f
  rw [hr]
  have hsg := ordL_sg l0 l1
  have hanti := ordL_anti l0 l1
  simp only [Option.bind_some, List.drop_zero, if_true]
  have hw : (ordL l1 l0 != wrap64 (-ordL l0 l1)) = false := by
    rw [hanti, wrap_in (⟨by omega, by omega⟩)]; simp
  rw [hw]
  obtain ⟨K, rfl⟩ : ∃ K', K = K' + 1 := ⟨K - 1, by omega⟩
  rw [cordonlaw02_CodeOrder.j1, if_neg (by simp)]
  have en0 : code_Encode.f K l0 = some (encode l0) := by
    have := encode_is (K - 2 * l0.length - 1020) l0 (by omega)
    rwa [show K - 2 * l0.length - 1020 + 2 * l0.length + 1020 = K from by omega] at this
  have en1 : code_Encode.f K l1 = some (encode l1) := by
    have := encode_is (K - 2 * l1.length - 1020) l1 (by omega)
    rwa [show K - 2 * l1.length - 1020 + 2 * l1.length + 1020 = K from by omega] at this
  rw [en0, en1]
  simp only [Option.bind_some]
  obtain ⟨K, rfl⟩ : ∃ K', K = K' + 1 := ⟨K - 1, by omega⟩
  have hj : ∀ s t, cordonlaw02_CodeOrder.j2 (K + 1) l0 l1 s t true = some true := fun s t => by
    rw [cordonlaw02_CodeOrder.j2, if_pos rfl, hal _ (by omega)]; rfl
  by_cases g0 : (encode l0).2 = 0
  case neg => rw [if_neg g0]; exact hj _ _
  rw [if_pos g0]
  by_cases g1 : (encode l1).2 = 0
  case neg => rw [show ((encode l1).2 != 0) = true from bne_iff_ne.2 g1]; exact hj _ _
  rw [show ((encode l1).2 != 0) = false from by simp [g1]]
  have sp : ∀ l : List S33, (encode l).2 = 0 → (encode l).1.toList = bytesR l ∧ errR l = 0 := fun l h => by
    unfold encode at h ⊢
    by_cases q : errR l ≠ 0
    · rw [if_pos q] at h; exact absurd h q
    · rw [if_neg q] at h ⊢
      by_cases q2 : l.length > 40
      · rw [if_pos q2] at h; simp at h
      · rw [if_neg q2, toList_txt]; exact ⟨rfl, by omega⟩
  obtain ⟨b0, r0⟩ := sp l0 g0
  obtain ⟨b1, r1⟩ := sp l1 g1
  have hc := bytes_cmp l0 l1 (fun x hx => ⟨errR_all r0 x hx, inR_of_wf (h0 x hx).2.1⟩) (fun x hx => ⟨errR_all r1 x hx, inR_of_wf (h1 x hx).2.1⟩)
  have hc' : cmpB (bytesR l1) (bytesR l0) = - ordL l0 l1 := by rw [lin_bytes.anti, hc]
  rw [cordonlaw02_CodeOrder.j2, if_neg (by simp), b0, b1]
  obtain ⟨K, rfl⟩ : ∃ K', K = K' + 1 := ⟨K - 1, by omega⟩
  rw [cordonlaw02_CodeOrder.j3, cordonlaw02_CodeOrder.j3, b0, b1, code_order l0 l1 hn0]
  have hsame : cordonref02_Same.f K l0 l1 = some (decide (ordL l0 l1 = 0)) := by
    have := same_is l0 l1 hn0 (K - 61)
    rwa [show K - 61 + 61 = K from by omega] at this
  rw [hsame, hal K (by omega)]
  simp only [Option.bind_some]
  have hz := lin_bytes.zero (bytesR l0) (bytesR l1)
  rw [hc] at hz
  have he : ((bytesR l0 == bytesR l1) == decide (ordL l0 l1 = 0)) = true := by
    by_cases q : ordL l0 l1 = 0
    · rw [hz.1 q]; simp [q]
    · have : ¬ bytesR l0 = bytesR l1 := fun e => q (hz.2 e)
      simp [q, this]
  rw [he]
  have n1 := @cmpB_neg (bytesR l0) (bytesR l1)
  have n2 := @cmpB_neg (bytesR l1) (bytesR l0)
  rw [hc] at n1
  rw [hc'] at n2
  rcases hsg with q | q | q
  · rw [if_pos (n1.1 (by omega)), if_neg (fun z => by have := n2.2 z; omega), if_pos q, if_pos rfl]
  · rw [if_neg (fun z => by have := n1.2 z; omega), if_neg (fun z => by have := n2.2 z; omega), if_pos q, if_pos rfl]
  · rw [if_neg (fun z => by have := n1.2 z; omega), if_pos (n2.1 (by omega)), if_pos q, if_pos rfl]
end Go.Proofs.Ythghflgmeepnlaa.Pure
