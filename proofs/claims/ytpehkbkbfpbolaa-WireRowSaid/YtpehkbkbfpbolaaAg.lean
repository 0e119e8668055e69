/- What is unfolded is folded to the same again; the bitmap of a fold. -/
import Derived.Test.YtpehkbkbfpbolaaUf
set_option linter.unusedSimpArgs false
set_option linter.unusedVariables false
namespace Go.Proofs.Ytpehkbkbfpbolaa.Ag
open Go.RowKit Go.Proofs.Ytpehkbkbfpbolaa.PW Go.Proofs.Ytpehkbkbfpbolaa.Pl Go.Proofs.Ytpehkbkbfpbolaa.Fd Go.Proofs.Ytpehkbkbfpbolaa.Bm Go.Proofs.Ytpehkbkbfpbolaa.Se Go.Proofs.Ytpehkbkbfpbolaa.Uf Go.Proofs.YtpehkbkbfpbolaaW.PrintWords Go.Proofs.YtpehkbkbfpbolaaW.PrintLast Go.Proofs.YtpehkbkbfpbolaaW.PrintMore
theorem or_bit (x : Int) (hx : 0 ≤ x ∧ x < 4294967296) (t : Nat) (ht : t ≤ 31) : Go.bits .or .u32 x (shl .u32 1 (t : Int)) = ((x.toNat ||| 2 ^ t : Nat) : Int) ∧ x.toNat ||| 2 ^ t < 4294967296 := by
  have hlt : (2 : Nat) ^ t < 2 ^ 32 := Nat.pow_lt_pow_right (by decide) (by omega)
  rw [shl_nat t ht]
  have h2 : x.toNat < 2 ^ 32 := by have : (2 : Nat) ^ 32 = 4294967296 := rfl; omega
  refine ⟨?_, Nat.or_lt_two_pow h2 hlt⟩
  have := (bits_nat .u32 32 (by decide) (fun n h0 h1 => by rw [IntKind.wrap_u32]; omega) x.toNat (2 ^ t) h2 hlt).2
  rw [Int.toNat_of_nonneg hx.1] at this
  exact this
theorem w32_setBit {m : List Int} (hm : W32 m) (i : Nat) : W32 (setBit m i) := by
  intro x hx
  obtain ⟨h1, h2⟩ := or_bit (m.getD (i / 32) 0) (w32_get hm _) (31 - i % 32) (by omega)
  rcases List.mem_or_eq_of_mem_set hx with h | h
  · exact hm x h
  · rw [h, h1]; omega
theorem bit_setBit {m : List Int} (hm : W32 m) (i j : Nat) (hi : i < 32 * m.length) : bit (setBit m i) j = (bit m j || decide (j = i)) := by
  obtain ⟨h1, h2⟩ := or_bit (m.getD (i / 32) 0) (w32_get hm _) (31 - i % 32) (by omega)
  unfold bit setBit
  rw [List.getD_eq_getElem?_getD, List.getElem?_set]
  by_cases h : i / 32 = j / 32
  · rw [if_pos h, if_pos (by omega), Option.getD_some, h1, Int.toNat_natCast, Nat.testBit_or, Nat.testBit_two_pow, h]
    congr 1
    by_cases e : j = i
    · subst e; simp
    · rw [decide_eq_false e, decide_eq_false (by omega)]
  · rw [if_neg h, ← List.getD_eq_getElem?_getD, decide_eq_false (fun e => h (by rw [e])), Bool.or_false]
theorem fo_bits (l : List Int) : ∀ d i (m out : List Int), W32 m → i + d ≤ 32 * m.length → W32 (fo l d i m out).1 ∧ ∀ j, bit (fo l d i m out).1 j = (bit m j || (decide (i ≤ j ∧ j < i + d) && newRun l j)) := by
  intro d
  induction d with
  | zero =>
    intro i m out hm _
    refine ⟨hm, fun j => ?_⟩
    rw [decide_eq_false (by omega)]; simp [fo]
  | succ d ih =>
    intro i m out hm hi
    unfold fo
    split
    · rename_i h
      obtain ⟨h1, h2⟩ := ih (i + 1) (setBit m i) (out ++ [l.getD i 0]) (w32_setBit hm i) (by rw [setBit_length]; omega)
      refine ⟨h1, fun j => ?_⟩
      rw [h2, bit_setBit hm i j (by omega)]
      by_cases e : j = i
      · subst e
        rw [decide_eq_true (rfl : j = j), decide_eq_false (show ¬ (j + 1 ≤ j ∧ j < j + 1 + d) by omega), decide_eq_true (show j ≤ j ∧ j < j + (d + 1) by omega), h]; simp
      · rw [decide_eq_false e, Bool.or_false]
        congr 2
        by_cases c : i + 1 ≤ j ∧ j < i + 1 + d
        · rw [decide_eq_true c, decide_eq_true (by omega)]
        · rw [decide_eq_false c, decide_eq_false (by omega)]
    · rename_i h
      obtain ⟨h1, h2⟩ := ih (i + 1) m out hm (by omega)
      refine ⟨h1, fun j => ?_⟩
      rw [h2]
      by_cases e : j = i
      · subst e
        rw [decide_eq_false (by omega), decide_eq_true (by omega), show newRun l j = false by simpa using h]; simp
      · congr 2
        by_cases c : i + 1 ≤ j ∧ j < i + 1 + d
        · rw [decide_eq_true c, decide_eq_true (by omega)]
        · rw [decide_eq_false c, decide_eq_false (by omega)]
theorem bits_ext {m m' : List Int} (hm : W32 m) (hm' : W32 m') (hl : m.length = m'.length) (h : ∀ j, j < 32 * m.length → bit m j = bit m' j) : m = m' := by
  apply List.ext_getElem hl
  intro q h1 h2
  have e : ∀ (r : List Int) (hq : q < r.length), r[q] = r.getD q 0 := fun r hq => by rw [List.getD_eq_getElem?_getD, List.getElem?_eq_getElem hq]; rfl
  rw [e m h1, e m' h2]
  have w1 := w32_get hm q
  have w2 := w32_get hm' q
  have key : (m.getD q 0).toNat = (m'.getD q 0).toNat := by
    apply Nat.eq_of_testBit_eq
    intro i
    rcases Nat.lt_or_ge i 32 with hi | hi
    · have := h (32 * q + (31 - i)) (by omega)
      unfold bit at this
      rw [show (32 * q + (31 - i)) / 32 = q by omega, show 31 - (32 * q + (31 - i)) % 32 = i by omega] at this
      exact this
    · have b : ∀ x : Nat, x < 4294967296 → x.testBit i = false := fun x hx => Nat.testBit_lt_two_pow (Nat.lt_of_lt_of_le (show x < 2 ^ 32 from hx) (Nat.pow_le_pow_right (by decide) hi))
      rw [b _ (by omega), b _ (by omega)]
  omega
theorem noAdj_ne {l : List Int} : ∀ d i, noAdj l d i = true → ∀ j, i ≤ j → j < i + d → l.getD (j - 1) 0 ≠ l.getD j 0 := by
  intro d
  induction d with
  | zero => intro i _ j h1 h2; omega
  | succ d ih =>
    intro i h j h1 h2
    rw [noAdj] at h
    by_cases c : l.getD (i - 1) 0 = l.getD i 0
    · rw [if_pos c] at h; cases h
    · rw [if_neg c] at h
      rcases Nat.eq_or_lt_of_le h1 with e | e
      · rw [← e]; exact c
      · exact ih (i + 1) h j e (by omega)
theorem unf_get (m l : List Int) (n i : Nat) (h : i < n) : (unf m l n).getD i 0 = l.getD (cnt m (i + 1) - 1) 0 := by
  unfold unf
  rw [List.getD_eq_getElem?_getD, List.getElem?_map, List.getElem?_range h]
  rfl
theorem newRun_unf {m l : List Int} {n : Nat} (hcl : cnt m n = l.length) (hna : noAdj l (l.length - 1) 1 = true) (h0 : n = 0 ∨ bit m 0 = true) (i : Nat) (h : i < n) : newRun (unf m l n) i = bit m i := by
  have hb0 := h0.resolve_left (by omega)
  unfold newRun
  rcases Nat.eq_zero_or_pos i with hz | hz
  · subst hz; rw [hb0]; rfl
  · rw [show (i == 0) = false by rw [beq_eq_false_iff_ne]; omega, Bool.false_or, unf_get m l n (i - 1) (by omega), unf_get m l n i h, show i - 1 + 1 = i by omega]
    have hs := cnt_succ m i
    have hmo := cnt_mono m (show i + 1 ≤ n by omega)
    have hpos : 1 ≤ cnt m i := by
      have h1 := cnt_mono m (show 1 ≤ i by omega)
      have h2 : cnt m 1 = cnt m 0 + (if bit m 0 then 1 else 0) := cnt_succ m 0
      rw [if_pos hb0] at h2
      omega
    cases hb : bit m i
    · rw [hb] at hs
      rw [hs]; simp
    · rw [hb, if_pos rfl] at hs
      rw [hs, show cnt m i + 1 - 1 = cnt m i by omega, bne_iff_ne]
      exact noAdj_ne _ _ hna (cnt m i) hpos (by omega)
theorem fo_out (r l : List Int) (m : List Int) (n : Nat) (hr : r.length = n) (hnr : ∀ i, i < n → newRun r i = bit m i) (hget : ∀ i, i < n → r.getD i 0 = l.getD (cnt m (i + 1) - 1) 0) (hcl : cnt m n ≤ l.length) : ∀ d i (b : List Int), i + d = n → (fo r d i b (l.take (cnt m i))).2 = l.take (cnt m n) := by
  intro d
  induction d with
  | zero => intro i b hi; rw [show i = n by omega]; rfl
  | succ d ih =>
    intro i b hi
    have hs := cnt_succ m i
    have hmo := cnt_mono m (show i + 1 ≤ n by omega)
    unfold fo
    rw [hnr i (by omega)]
    cases hb : bit m i
    · rw [hb] at hs
      rw [if_neg (by decide)]
      have := ih (i + 1) b (by omega)
      rw [hs] at this
      exact this
    · rw [hb, if_pos rfl] at hs
      rw [if_pos rfl, hget i (by omega), hs, show cnt m i + 1 - 1 = cnt m i by omega]
      have := ih (i + 1) (setBit b i) (by omega)
      rw [hs, List.take_succ_eq_append_getElem (show cnt m i < l.length by omega)] at this
      rw [List.getD_eq_getElem?_getD, List.getElem?_eq_getElem (show cnt m i < l.length by omega), Option.getD_some]
      exact this
theorem bit_zeros (k j : Nat) : bit (List.replicate k 0) j = false := by
  unfold bit
  rw [List.getD_eq_getElem?_getD, List.getElem?_replicate]
  split <;> simp
theorem w32_zeros (k : Nat) : W32 (List.replicate k 0) := by
  intro x hx
  rw [(List.mem_replicate.1 hx).2]; exact ⟨by decide, by decide⟩
theorem cnt_zero_none {m : List Int} {n j : Nat} (h : cnt m n = cnt m (32 * m.length)) (h1 : n ≤ j) (h2 : j < 32 * m.length) : bit m j = false := by
  have a := cnt_mono m h1
  have b := cnt_mono m (show j + 1 ≤ 32 * m.length by omega)
  have c := cnt_succ m j
  cases hb : bit m j
  · rfl
  · rw [hb, if_pos rfl] at c; omega
/-- What is unfolded, folded: bitmap and runs again. -/
theorem fold_unf {m l : List Int} (hm : W32 m) (n : Nat) (hg : goodU m l n = true) : fold (unf m l n) = (m, l) := by
  unfold goodU at hg
  simp only [Bool.and_eq_true, decide_eq_true_eq] at hg
  obtain ⟨h1, h2, h3, h4, h5⟩ := hg
  have hcl : cnt m n = l.length := by omega
  have hnr := fun i hi => newRun_unf hcl h5 h3 i hi
  have hget := fun i hi => unf_get m l n i hi
  unfold fold
  rw [unf_length, ← h1]
  obtain ⟨hw, hb⟩ := fo_bits (unf m l n) n 0 (List.replicate m.length 0) [] (w32_zeros _) (by rw [List.length_replicate]; omega)
  have hlen := (fo_len (unf m l n) n 0 (List.replicate m.length 0) []).1
  rw [List.length_replicate] at hlen
  have hout := fo_out (unf m l n) l m n (unf_length m l n) (fun i hi => hnr i hi) (fun i hi => hget i hi) (by omega) n 0 (List.replicate m.length 0) (by omega)
  rw [hcl, List.take_length] at hout
  rw [show cnt m 0 = 0 from rfl, List.take_zero] at hout
  refine Prod.ext ?_ hout
  refine bits_ext hw hm hlen (fun j hj => ?_)
  rw [hlen] at hj
  rw [hb, bit_zeros, Bool.false_or]
  rcases Nat.lt_or_ge j n with h | h
  · rw [decide_eq_true (by omega), Bool.true_and, hnr j h]
  · rw [decide_eq_false (by omega), Bool.false_and, cnt_zero_none (by rw [cnt_all]; omega) h hj]
end Go.Proofs.Ytpehkbkbfpbolaa.Ag
