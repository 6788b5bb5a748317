/- rows.bytes; a kind for raw cells. rows.keep: each row once, of those that may stay. rows.Distinct. -/
import Derived.Test.YthghflgmeepnlaaQc
import Derived.Maps.Own
import Derived.Maps.OwnOps
import Derived.Maps.Views
import Derived.Maps.OwnSet
namespace Go.Proofs.Ythghflgmeepnlaa.Pa
open Go.RowKit Go.Proofs.YthghflgmeepnlaaW.PrintWords Go.Proofs.YthghflgmeepnlaaW.PrintLast Go.Proofs.YthghflgmeepnlaaW.PrintMore
set_option linter.unusedVariables false
set_option linter.unusedSimpArgs false

/-- A raw cell: a value of one cell, told by itself. -/
def kV : Kd {v : Value // v.oneCell' = true} where
  sz := 1
  E := []
  K := fun _ x cs => cs = [x.1]
  M := fun _ _ _ x cs => cs = [x.1]
  K_len := fun h => by rw [h]; rfl
  K_one := fun {_ x _} h u hu => by rw [h] at hu; rw [List.mem_singleton.1 hu]; exact x.2
  K_below := fun _ h => h
  K_of_M := fun h => h
  M_mono := fun _ h => h
  M_bound := fun h => h
  M_move := fun _ h => h
  M_lower := fun _ h => h

/-- The bytes that tell a row apart. -/
def bytesOfRow (l : List S33) : ByteArray := (encode l).1
set_option maxHeartbeats 4000000 in
set_option maxRecDepth 100000 in
theorem rows_bytes_calls (A : Option Addr) (c : Nat) (l : List S33) (w : World) (hr : Kd.C k33 w A l.length l) (hc : l.length ≤ c) (hl : l.length ≤ 9223372036854775807) :
    Calls Try.prog 98 #[.slice A l.length c] w fun e w' => e = .returned (.string (bytesOfRow l)) ∧ Below w.heap.size w w' := by
  have E := Aside0.mk (code_Encode.calls (0 + 2 * l.length + 1020) A c l (encode l).1 (encode l).2 w hr hc (encode_is 0 l hl))
  have HB := Aside0.mk (Below.refl w.heap.size w)
  clear hr hc
  go_enter Try.func98, Try.ntmps98
  go_wp2_with fail
  refine E.out.mono ?_
  rintro e w1 ⟨rfl, hb⟩
  have HB1 := Aside0.mk hb
  clear hb
  go_wp2_with fail
  go_ret
  exact ⟨rfl, HB1.out⟩
end Go.Proofs.Ythghflgmeepnlaa.Pa
namespace Go.Proofs.Ythghflgmeepnlaa.Pa
open Go.RowKit Go.Proofs.YthghflgmeepnlaaW.PrintWords Go.Proofs.YthghflgmeepnlaaW.PrintLast Go.Proofs.YthghflgmeepnlaaW.PrintMore
open Go.Maps
set_option linter.unusedVariables false
set_option linter.unusedSimpArgs false

theorem law9 : Keyed Try.prog 9 := string_keyed Try.underlying9
theorem zero3m (w : World) : (zeroValue 3).run Try.prog w = .ok (.int .i64 0) w := by kernel_rfl

theorem wrapM {x : Int} (h0 : 0 ≤ x) (h1 : x < 9223372036854775808) : wrap64 x = x := by unfold wrap64; omega
/-- A text as a key. -/
abbrev ky (s : ByteArray) : List UInt8 := s.data.toList
theorem ky_inj {s t : ByteArray} (h : ky s = ky t) : s = t := by
  cases s; cases t; simp at h; simp [h]
/-- A map of how often each text has been met. -/
structure Seen (w : World) (g n : Nat) (seen : List (List UInt8)) : Prop where
  mk ::
  own : ∃ D : DataW Unit, w.ownsMap Try.prog 9 (plainElem Try.prog 3) g n D ∧ IsMap D ∧ ∀ s : List UInt8, D.atKey (.string s) (.lit (.int .i64 0)) = .lit (.int .i64 (seen.count s : Nat))

theorem Seen.start (w : World) : Seen (w.alloc (.map #[] 0)) w.heap.size 0 [] := ⟨.map [], World.ownsMap_made _ _ _ _, isMap_empty, fun s => by rfl⟩
theorem grown_of_below {w w1 : World} (h : Below w.heap.size w w1) : w.grownBy w1 none := ⟨h.os, h.tape, h.output, h.size, fun k hk _ => h.block k hk⟩
theorem Seen.grown {w w1 : World} {g n : Nat} {l : List (List UInt8)} (h : Seen w g n l) {row : Option Nat} (hg : w.grownBy w1 row) (hne : some g ≠ row) : Seen w1 g n l := by
  obtain ⟨D, h1, h2, h3⟩ := h.own
  exact ⟨D, h1.kept hg hne, h2, h3⟩
theorem Seen.below {w w1 : World} {g n : Nat} {l : List (List UInt8)} (h : Seen w g n l) (hb : Below w.heap.size w w1) : Seen w1 g n l := h.grown (grown_of_below hb) (by simp)
theorem Seen.lt {w : World} {g n : Nat} {l : List (List UInt8)} (h : Seen w g n l) : g < w.heap.size := by
  obtain ⟨D, h1, _, _⟩ := h.own
  exact h1.lt
theorem Seen.alloc {w : World} {g n : Nat} {l : List (List UInt8)} (h : Seen w g n l) (o : Obj) : Seen (w.alloc o) g n l := by
  obtain ⟨D, h1, h2, h3⟩ := h.own
  exact ⟨D, h1.alloc o, h2, h3⟩
theorem Seen.drew {w : World} {g n : Nat} {l : List (List UInt8)} (h : Seen w g n l) : Seen w.drew g n l := by
  obtain ⟨D, h1, h2, h3⟩ := h.own
  exact ⟨D, h1.drew, h2, h3⟩

/-- One more. -/
theorem put_count {D : DataW Unit} (hD : IsMap D) {seen : List (List UInt8)} {s : List UInt8} (h : ∀ t : List UInt8, D.atKey (.string t) (.lit (.int .i64 0)) = .lit (.int .i64 (seen.count t : Nat))) {v : Int} (hv : v = ((s :: seen).count s : Nat)) :
    IsMap (D.put (.string s) (.lit (.int .i64 v))) ∧ ∀ t : List UInt8, (D.put (.string s) (.lit (.int .i64 v))).atKey (.string t) (.lit (.int .i64 0)) = .lit (.int .i64 ((s :: seen).count t : Nat)) := by
  refine ⟨hD.put _ _, fun t => ?_⟩
  by_cases hst : t = s
  · subst hst
    rw [atKey_put_same hD (by simp [WideAt.IsKeyLit]), hv]
  · rw [atKey_put_other (fun he => hst (by injection he)), h t, List.count_cons_of_ne (fun he => hst he.symm)]

/-- What keep is. -/
def keepL (may : ByteArray → Bool) : List (List UInt8) → List (List S33) → List (List S33)
  | _, [] => []
  | seen, r :: rs => if seen.count (ky (bytesOfRow r)) = 0 ∧ may (bytesOfRow r) = true then r :: keepL may (ky (bytesOfRow r) :: seen) rs else keepL may (ky (bytesOfRow r) :: seen) rs

theorem drop_rdL {l : List (List S33)} {i : Int} (h0 : 0 ≤ i) (h1 : i < (l.length : Int)) : l.drop i.toNat = rd_L4 l i :: l.drop (i + 1).toNat := by
  have hlt : i.toNat < l.length := by omega
  rw [List.drop_eq_getElem_cons hlt, show (i + 1).toNat = i.toNat + 1 by omega]
  congr 1
  unfold rd_L4
  rw [List.getD_eq_getElem?_getD, List.getElem?_eq_getElem hlt]
  rfl

theorem N_base {α : Type} {d : Kd α} {e base : Nat} {ok : Nat → Prop} {w : World} {v : Value} {xs : List α} (h : Kd.N d e w base ok v xs) : ∀ k, v.ownBlock = some k → base ≤ k := by
  obtain ⟨_, rows, hl, hR, _⟩ := h
  obtain ⟨inner, ho⟩ := Kd.R_own hR
  exact fun k hk => own_base ho k hk

set_option maxHeartbeats 8000000 in
set_option maxRecDepth 100000 in
theorem keep_calls (fk : Nat) (caps : Array Value) (may : ByteArray → Bool) (P0_ : Nat → Prop) (A0 : Option Addr) (c0 : Nat) (l0 : List (List (S33))) (w : World) (hs0 : Kd.V (Kd.slice 33 k33) 22 w w.heap.size (fun k_ => P0_ k_) (.slice A0 l0.length c0) l0)
    (hl : l0.length < 4000000000000) (hrow : ∀ r ∈ l0, r.length ≤ 9223372036854775807) (hmax : ∀ r ∈ l0, (bytesOfRow r).size ≤ maxLen)
    (hcf : ∀ (s : ByteArray) (W : World), Sem.run Try.prog (callFunc fk (#[Value.string s] ++ caps)) W = Result.ok (Next.enter fk (#[Value.string s] ++ caps)) W)
    (hmay : ∀ (W : World) (s : ByteArray), s.size ≤ maxLen → Below w.heap.size w W → Calls Try.prog fk (#[.string s] ++ caps) W fun e w' => e = .returned (.bool (may s)) ∧ Below W.heap.size W w') :
    Calls Try.prog 99 #[.slice A0 l0.length c0, .func (.func fk) #[] caps] w fun e w' => ∃ v0_ : Value, e = .returned (v0_) ∧ Kd.N (Kd.slice 33 k33) 22 w' w.heap.size (fun k_ => (P0_ k_ ∨ w.heap.size ≤ k_)) v0_ (keepL may [] l0) ∧ Below w.heap.size w w' := by
  have hmm := @run_makeMap Try.prog
  have HO0 := Aside0.mk (Kd.V_bound hs0)
  have HB := Aside0.mk (Below.refl w.heap.size w)
  have HM := Aside0.mk hmay
  have HR := Aside0.mk hrow
  have HX := Aside0.mk hmax
  have HL := Aside0.mk hl
  clear hmay hrow hl hmax hs0
  go_enter Try.func99, Try.ntmps99
  go_wp2
  go_loopg [6, 13] l0.length (fun kq v6 v13 w' => ∃ (x6 : List (List S33)) (x13 : Int) (seen : List (List UInt8)), v13 = .int .i64 x13 ∧ Aside0 (0 ≤ x13 ∧ x13 + kq = l0.length) ∧ Aside0 (x6.length ≤ x13.toNat) ∧ Aside0 (x6 ++ keepL may seen (l0.drop x13.toNat) = keepL may [] l0) ∧ Aside0 (seen.length = x13.toNat) ∧ Aside0 (Seen w' w.heap.size x13.toNat seen) ∧ Aside0 (Kd.V (Kd.slice 33 k33) 22 w' w.heap.size (fun k_ => P0_ k_ ∧ k_ < w.heap.size) (.slice A0 l0.length c0) l0) ∧ Aside0 (Kd.N (Kd.slice 33 k33) 22 w' w.heap.size (fun k_ => (P0_ k_ ∧ k_ < w.heap.size) ∨ w.heap.size < k_) v6 x6) ∧ Aside0 (Below w.heap.size w w'))
  case atStart => exact ⟨[], 0, [], rfl, ⟨by simp⟩, ⟨by simp⟩, ⟨by simp⟩, ⟨rfl⟩, ⟨Seen.start w⟩, ⟨Kd.V_alloc HO0.out _⟩, ⟨Kd.N_nil _ _ _ _ _⟩, ⟨below_alloc HB.out _⟩⟩
  case round =>
    clear HB HO0
    obtain ⟨x6, x13, seen, rfl, HI, HZ, HA, HS, HD, HV, HN, HB⟩ := hrel
    by_cases c2 : x13 < (l0.length : Int)
    · have c2b : decide (x13 < (l0.length : Int)) = true := decide_eq_true c2
      have p0 : 0 ≤ x13 := HI.out.1
      have c2c : decide (0 ≤ x13) = true := decide_eq_true p0
      obtain ⟨k1, rfl⟩ : ∃ k1, gk = k1 + 1 := ⟨gk - 1, by have := HI.out.2; omega⟩
      obtain ⟨ad, A1, c1, e1, hx1, hl1, hi1⟩ := at_L4 (Kd.V_reads' HV.out).2.2 x13 p0 c2
      cases e1
      obtain ⟨ce, hce, hMe, hcc⟩ := Kd.V_get HV.out [] x13 p0 c2
      obtain ⟨ua, uc, rfl, ul, ge⟩ := Kd.FK_slice_open hMe
      have hv := hcc 0 _ rfl
      rw [Nat.add_zero, show ((Kd.slice 33 k33)).sz = 1 from rfl, Nat.mul_one] at hv
      replace hv := Option.some.inj (hv.symm.trans hx1)
      injection hv with hva_ hvn_ hvc_
      rw [hva_] at ge
      rw [hvc_] at ul
      have HF := Aside0.mk (show Kd.V k33 33 _ w.heap.size _ _ (rd_L4 l0 x13) from Kd.V_mk ul ge)
      clear hva_ hvn_ hvc_ ge ul hcc hce hMe
      have HR1 := Aside0.mk hi1
      have HC1 := Aside0.mk hl1
      clear hi1 hl1
      obtain ⟨Ao, co, eo⟩ := Kd.N_slice HN.out
      subst eo
      have p1 := eq_true p0
      have q1 := eq_true c2
      have hmem : rd_L4 l0 x13 ∈ l0 := by
        have hlt : x13.toNat < l0.length := by omega
        unfold rd_L4
        rw [List.getD_eq_getElem?_getD, List.getElem?_eq_getElem hlt]
        exact List.getElem_mem hlt
      have hrl := HR.out _ hmem
      have hkey : keyOf Try.prog 9 (.string (bytesOfRow (rd_L4 l0 x13))) = some (.string (ky (bytesOfRow (rd_L4 l0 x13)))) := WideMaps.keyOf_string_mk Try.underlying9 (HX.out _ hmem)
      have hcl : (seen.count (ky (bytesOfRow (rd_L4 l0 x13)))) ≤ seen.length := List.count_le_length
      have hnl := HL.out
      have hds := HS.out
      have HK := Aside0.mk (show x13.toNat < maxLen by unfold maxLen; omega)
      have E14 := Aside0.mk (show wrap64 (x13 + 1) = x13 + 1 from wrapM (by omega) (by omega))
      have HI' := Aside0.mk (show 0 ≤ x13 + 1 ∧ x13 + 1 + (k1 : Int) = l0.length by have := HI.out.2; omega)
      have HS' := Aside0.mk (show (ky (bytesOfRow (rd_L4 l0 x13)) :: seen).length = (x13 + 1).toNat by rw [List.length_cons, hds]; omega)
      have E15 := Aside0.mk (show (x13 + 1).toNat = x13.toNat + 1 by omega)
      have LM := Aside0.mk (show x6.length < 4000000000000 by have := HZ.out; omega)
      have hA := HA.out
      rw [drop_rdL p0 c2, keepL] at hA
      have HA := Aside0.mk hA
      clear hA
      go_wp2_with fail
      refine (rows_bytes_calls _ _ (rd_L4 l0 x13) _ HR1.out HC1.out hrl).mono ?_
      rintro e w1 ⟨rfl, hb⟩
      obtain ⟨D, hown, hIs, hcnt⟩ := (HD.out.below hb).own
      have HV1 := Aside0.mk (Kd.V_below HV.out hb)
      have HN1 := Aside0.mk (Kd.N_below HN.out hb)
      have HF1 := Aside0.mk (Kd.V_below HF.out hb)
      have HB1 := Aside0.mk (below_step HB.out hb)
      clear hb HV HN HF HB HD
      by_cases c3 : seen.count (ky (bytesOfRow (rd_L4 l0 x13))) = 0
      · have hC1 : (1 : Int) = ((ky (bytesOfRow (rd_L4 l0 x13)) :: seen).count (ky (bytesOfRow (rd_L4 l0 x13))) : Nat) := by
          rw [List.count_cons_self]; omega
        have HPC := Aside0.mk (put_count hIs hcnt hC1)
        have HC0 := Aside0.mk (hcnt (ky (bytesOfRow (rd_L4 l0 x13))))
        rw [c3] at HC0
        have C3 := Aside0.mk c3
        clear c3 hC1 hnl hds hcl hIs hcnt
        go_wp2_with (first
          | (at_lookup; refine wpList_lookup_own_int _ rfl _ _ 103 rfl 9 3 .i64 law9 Try.underlying103 Try.underlying3 (zero3m _) w.heap.size _ _ rfl hown1 _ _ rfl hkey ?_; intro c1 hat1 hwc1; (have e1 : c1 = 1 := by (have h1 := hat1.symm.trans (HPC.out.2 _); injection h1 with h1; injection h1 with _ h1; rw [h1, List.count_cons_self, C3.out]; rfl)); subst e1; clear hat1 hwc1)
          | (at_lookup; refine wpList_lookup_own_int _ rfl _ _ 103 rfl 9 3 .i64 law9 Try.underlying103 Try.underlying3 (zero3m _) w.heap.size _ _ rfl hown _ _ rfl hkey ?_; intro c hat hwc; (have e1 : c = 0 := by (have h1 := hat.symm.trans HC0.out; injection h1 with h1; injection h1)); subst e1; clear hat hwc)
          | (at_mapUpdate; refine wpList_mapUpdate_own _ rfl _ _ _ 103 rfl 9 3 law9 Try.underlying103 _ w.heap.size _ _ rfl hown HK.out _ _ _ rfl rfl hkey _ [] (plainElem_int Try.underlying3 (by decide)) ?_; intro w2 hown1 hg1))
        have HD2 := Aside0.mk (Seen.mk ⟨_, hown1, HPC.out.1, HPC.out.2⟩)
        have HV2 := Aside0.mk (Kd.V_grown HV1.out hg1 (fun k hk he => by injection he with he; have := hk.2; omega))
        have HF2 := Aside0.mk (Kd.V_grown HF1.out hg1 (fun k hk he => by injection he with he; have := hk.2; omega))
        have HN2 := Aside0.mk (Kd.N_grown HN1.out hg1 (fun k hk he => by injection he with he; rcases hk with hk | hk <;> omega))
        have HB2 := Aside0.mk (pw_below_grown HB1.out _ (below_size HB1.out) hg1 (fun k hk => by injection hk with hk; omega))
        clear HV1 HF1 HN1 HB1 hg1 hown1 hown
        refine (HM.out _ _ (HX.out _ hmem) HB2.out).mono ?_
        rintro e w3 ⟨rfl, hb⟩
        have HD3 := Aside0.mk (HD2.out.below hb)
        have HV3 := Aside0.mk (Kd.V_below HV2.out hb)
        have HF3 := Aside0.mk (Kd.V_below HF2.out hb)
        have HN3 := Aside0.mk (Kd.N_below HN2.out hb)
        have HB3 := Aside0.mk (below_step HB2.out hb)
        clear hb HV2 HN2 HF2 HB2 HD2
        by_cases c4 : may (bytesOfRow (rd_L4 l0 x13)) = true
        · have hA := HA.out
          rw [if_pos ⟨C3.out, c4⟩] at hA
          go_wp2_with ((with_reducible refine gate_builtin (b := .append) (xs := #[.tmp 32, .tmp 34]) rfl ?_); at_builtin; refine Kd.N_append (Kd.slice 33 k33) (w0 := w) w.heap.size rfl (.tmp 32) (.tmp 34) 58 22 (.slice none 0 0) 24 rfl Try.underlying58 info22 rfl (by decide) (by omega) (.slice Ao x6.length co) x6 (rd_L4 l0 x13) [.slice A1 (rd_L4 l0 x13).length c1] (fun k_ => (P0_ k_ ∧ k_ < w.heap.size) ∨ w.heap.size < k_) (fun k_ => P0_ k_ ∧ k_ < w.heap.size) rfl rfl ?aP ?aK ?aF ?aO ?aB ?aS ?aL ?_; (case aP => exact (Kd.FK_slice_mk (Kd.V_reads' HF3.out).2.1 (Kd.V_F HF3.out))); (case aK => exact (fun k hk => ⟨.inl hk, fun he => by have h1 := N_base HN3.out k he.symm; have h2 := hk.2; omega⟩)); (case aB => exact HB3.out); (case aF => exact (fun k hk => .inr (Nat.lt_of_lt_of_le HD3.out.lt hk))); (case aO => exact HN3.out); (case aS => exact below_size HB3.out); (case aL => have := LM.out; omega); intro v9 w9 ho hb hg hat; have HN9 := Aside0.mk ho; have HB9 := Aside0.mk hb; have HV9 := Aside0.mk (Kd.V_grown HV3.out hg (fun k hk he => by have h1 := N_base HN3.out k he.symm; have h2 := hk.2; omega)); have HD9 := Aside0.mk (HD3.out.grown hg (fun he => by have h1 := HN3.out.1 _ he.symm; rcases h1 with h1 | h1 <;> omega)); clear ho hb hg hat HN3 HB3 HV3 HF3 HD3)
          go_roundg k1
          case measure => omega
          case rel => exact ⟨x6 ++ [rd_L4 l0 x13], x13 + 1, _, by rw [E14.out], HI', ⟨by rw [List.length_append, E15.out]; have := HZ.out; simp only [List.length_cons, List.length_nil]; omega⟩, ⟨by rw [List.append_assoc]; exact hA⟩, HS', ⟨by rw [E15.out]; exact HD9.out⟩, HV9, HN9, HB9⟩
        · have hA := HA.out
          rw [if_neg (fun h => c4 h.2)] at hA
          replace c4 : may (bytesOfRow (rd_L4 l0 x13)) = false := Bool.eq_false_iff.mpr c4
          rw [c4]
          go_wp2_with fail
          go_roundg k1
          case measure => omega
          case rel => exact ⟨x6, x13 + 1, _, by rw [E14.out], HI', ⟨by rw [E15.out]; have := HZ.out; omega⟩, ⟨hA⟩, HS', ⟨by rw [E15.out]; exact HD3.out⟩, HV3, HN3, HB3⟩
      · have HCN := Aside0.mk (⟨hcnt, hIs⟩ : (∀ s : List UInt8, D.atKey (.string s) (.lit (.int .i64 0)) = .lit (.int .i64 (seen.count s : Nat))) ∧ IsMap D)
        have C3 := Aside0.mk (⟨c3, hcl, hds, hnl, c2⟩ : seen.count (ky (bytesOfRow (rd_L4 l0 x13))) ≠ 0 ∧ seen.count (ky (bytesOfRow (rd_L4 l0 x13))) ≤ seen.length ∧ seen.length = x13.toNat ∧ l0.length < 4000000000000 ∧ x13 < (l0.length : Int))
        have hA := HA.out
        rw [if_neg (fun h => c3 h.1)] at hA
        have HA' := Aside0.mk hA
        clear hA c3 hnl hds hcl hIs hcnt
        go_wp2_with (first
          | (at_lookup; refine wpList_lookup_own_int _ rfl _ _ 103 rfl 9 3 .i64 law9 Try.underlying103 Try.underlying3 (zero3m _) w.heap.size _ _ rfl hown1 _ _ rfl hkey ?_; intro c1 hat1 hwc1; (have e1 : c1 = wrap64 (c + 1) := by (have h1 := hat1.symm.trans ((put_count HCN.out.2 HCN.out.1 HC1x.out).2 _); injection h1 with h1; injection h1 with _ h1; exact h1.trans HC1x.out.symm)); subst e1; clear hat1 hwc1)
          | (at_lookup; refine wpList_lookup_own_int _ rfl _ _ 103 rfl 9 3 .i64 law9 Try.underlying103 Try.underlying3 (zero3m _) w.heap.size _ _ rfl hown _ _ rfl hkey ?_; intro c hat hwc; (have hC1 : wrap64 (c + 1) = ((ky (bytesOfRow (rd_L4 l0 x13)) :: seen).count (ky (bytesOfRow (rd_L4 l0 x13))) : Nat) := by (have h1 := hat.symm.trans (HCN.out.1 _); injection h1 with h1; injection h1 with _ h1; have h2 := C3.out; rw [List.count_cons_self, wrapM (by omega) (by omega)]; omega)); (have c3b : (wrap64 (c + 1) == 1) = false := beq_eq_false_iff_ne.mpr (by (rw [hC1, List.count_cons_self]; have h2 := C3.out; omega))); have HC1x := Aside0.mk hC1; clear hat hwc hC1)
          | (at_mapUpdate; refine wpList_mapUpdate_own _ rfl _ _ _ 103 rfl 9 3 law9 Try.underlying103 _ w.heap.size _ _ rfl hown HK.out _ _ _ rfl rfl hkey _ [] (plainElem_int Try.underlying3 (wrap64_wf _)) ?_; intro w2 hown1 hg1))
        have HPC := put_count HCN.out.2 HCN.out.1 HC1x.out
        have HD2 := Aside0.mk (Seen.mk ⟨_, hown1, HPC.1, HPC.2⟩)
        have HV2 := Aside0.mk (Kd.V_grown HV1.out hg1 (fun k hk he => by injection he with he; have := hk.2; omega))
        have HN2 := Aside0.mk (Kd.N_grown HN1.out hg1 (fun k hk he => by injection he with he; rcases hk with hk | hk <;> omega))
        have HB2 := Aside0.mk (pw_below_grown HB1.out _ (below_size HB1.out) hg1 (fun k hk => by injection hk with hk; omega))
        go_roundg k1
        case measure => omega
        case rel => exact ⟨x6, x13 + 1, _, by rw [E14.out], HI', ⟨by rw [E15.out]; have := HZ.out; omega⟩, HA', HS', ⟨by rw [E15.out]; exact HD2.out⟩, HV2, HN2, HB2⟩
    · have c2b : decide (x13 < (l0.length : Int)) = false := decide_eq_false c2
      have e13 : x13.toNat = l0.length := by have := HI.out; omega
      have hA := HA.out
      rw [e13, List.drop_length] at hA
      simp only [keepL, List.append_nil] at hA
      subst hA
      go_wp2_with fail
      go_ret
      exact ⟨_, rfl, Kd.N_mono HN.out (fun k hk => hk.imp (fun h => h.1) (fun h => Nat.le_of_lt h)), HB.out⟩
end Go.Proofs.Ythghflgmeepnlaa.Pa
namespace Go.Proofs.Ythghflgmeepnlaa.Pa
open Go.RowKit Go.Proofs.YthghflgmeepnlaaW.PrintWords Go.Proofs.YthghflgmeepnlaaW.PrintLast Go.Proofs.YthghflgmeepnlaaW.PrintMore
open Go.Maps
set_option linter.unusedVariables false
set_option linter.unusedSimpArgs false

theorem enter_of {f : FuncId} {fn : Func} (hf : Try.prog.funcs[f]? = some fn) (hname : (fn.name == "runtime.NumGoroutine") = false) (hb : fn.body.isNone = false) (args : Array Value) (W : World) :
    Sem.run Try.prog (callFunc f args) W = Result.ok (Next.enter f args) W := by
  have h1 : ¬ fn.name = "runtime.NumGoroutine" := by simpa using hname
  have h2 : ¬ fn.body = none := by intro h; simp [h] at hb
  unfold callFunc
  simp [go_sem, hf]
  rw [if_neg h1, if_neg h2]

set_option maxHeartbeats 4000000 in
set_option maxRecDepth 100000 in
theorem true_calls (s : ByteArray) (w : World) : Calls Try.prog 100 (#[.string s] ++ #[]) w fun e w' => e = .returned (.bool true) ∧ Below w.heap.size w w' := by
  have HB := Aside0.mk (Below.refl w.heap.size w)
  go_enter Try.func100, Try.ntmps100
  go_wp2
  go_ret
  exact ⟨rfl, HB.out⟩

/-- Each row once. -/
def distinctL (l : List (List S33)) : List (List S33) := keepL (fun _ => true) [] l
set_option maxHeartbeats 4000000 in
set_option maxRecDepth 100000 in
theorem rows_Distinct_calls (P0_ : Nat → Prop) (A0 : Option Addr) (c0 : Nat) (l0 : List (List (S33))) (w : World) (hs0 : Kd.V (Kd.slice 33 k33) 22 w w.heap.size (fun k_ => P0_ k_) (.slice A0 l0.length c0) l0)
    (hl : l0.length < 4000000000000) (hrow : ∀ r ∈ l0, r.length ≤ 9223372036854775807) (hmax : ∀ r ∈ l0, (bytesOfRow r).size ≤ maxLen) :
    Calls Try.prog 61 #[.slice A0 l0.length c0] w fun e w' => ∃ v0_ : Value, e = .returned (v0_) ∧ Kd.N (Kd.slice 33 k33) 22 w' w.heap.size (fun k_ => (P0_ k_ ∨ w.heap.size ≤ k_)) v0_ (distinctL l0) ∧ Below w.heap.size w w' := by
  have HK := Aside0.mk (keep_calls 100 #[] (fun _ => true) P0_ A0 c0 l0 w hs0 hl hrow hmax (fun s W => enter_of Try.func100 (by kernel_rfl) (by kernel_rfl) _ W) (fun W s _ _ => true_calls s W))
  clear hs0 hl hrow hmax
  go_enter Try.func61, Try.ntmps61
  go_wp2_with fail
  refine HK.out.mono ?_
  rintro e w1 ⟨v0, rfl, hn, hb⟩
  have HN := Aside0.mk hn
  have HB := Aside0.mk hb
  clear hn hb
  obtain ⟨Ao, co, eo⟩ := Kd.N_slice HN.out
  subst eo
  go_wp2
  go_ret
  exact ⟨_, rfl, HN.out, HB.out⟩
end Go.Proofs.Ythghflgmeepnlaa.Pa
