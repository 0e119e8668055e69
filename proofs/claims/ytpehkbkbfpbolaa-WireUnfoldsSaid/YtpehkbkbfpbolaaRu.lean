/- What the document's Unfold comes to: the same as wire's. -/
import Derived.Test.YtpehkbkbfpbolaaUf
import Derived.Test.YtpehkbkbfpbolaaPWx42
set_option linter.unusedSimpArgs false
set_option linter.unusedVariables false
namespace Go.Proofs.Ytpehkbkbfpbolaa.Ru
open Go.RowKit Go.Proofs.Ytpehkbkbfpbolaa.PW Go.Proofs.Ytpehkbkbfpbolaa.Pl Go.Proofs.Ytpehkbkbfpbolaa.Fd Go.Proofs.Ytpehkbkbfpbolaa.Bm Go.Proofs.Ytpehkbkbfpbolaa.Se Go.Proofs.Ytpehkbkbfpbolaa.Uf Go.Proofs.YtpehkbkbfpbolaaW.PrintWords Go.Proofs.YtpehkbkbfpbolaaW.PrintLast Go.Proofs.YtpehkbkbfpbolaaW.PrintMore
theorem rbuild {m l : List Int} (hm : W32 m) (n : Nat) (hml : m.length ≤ 3000) (hn : n ≤ 32 * m.length) (h0 : n = 0 ∨ bit m 0 = true) (hc : cnt m n ≤ l.length) : ∀ d k i : Nat, i + d = n → d < k →
    turnpikeref13_Unfold.l2 k m (n : Int) l (unf m l i) ((cnt m i : Int) - 1) (i : Int) = some (unf m l n, 0) := by
  intro d
  induction d with
  | zero =>
    intro k i hi hk
    obtain ⟨k, rfl⟩ : ∃ m, k = m + 1 := ⟨k - 1, by omega⟩
    obtain rfl : i = n := by omega
    simp only [turnpikeref13_Unfold.l2]
    rw [if_neg (by omega)]
  | succ d ih =>
    intro k i hi hk
    obtain ⟨k, rfl⟩ : ∃ m, k = m + 1 := ⟨k - 1, by omega⟩
    have hs := cnt_succ m i
    have hle := cnt_le m i
    have hcn := cnt_le m n
    have hmo := cnt_mono m (show i + 1 ≤ n by omega)
    have hpos : 1 ≤ cnt m (i + 1) := by
      have h1 := cnt_mono m (show 1 ≤ i + 1 by omega)
      have h2 : cnt m 1 = cnt m 0 + (if bit m 0 then 1 else 0) := cnt_succ m 0
      rw [if_pos (h0.resolve_left (by omega))] at h2
      omega
    have e := ih k (i + 1) (by omega) (by omega)
    rw [unf_succ] at e
    simp only [turnpikeref13_Unfold.l2]
    rw [if_pos (by omega), is_some hm (by omega) i (by omega), Option.bind_some, w64 (x := (i : Int) + 1) (by omega) (by omega), w64 (x := (cnt m i : Int) - 1 + 1) (by omega) (by omega)]
    by_cases h : bit m i = true
    · rw [if_pos h] at hs
      rw [if_pos h, if_pos (by omega), if_pos (by omega), if_pos (by rw [unf_length]; omega)]
      rw [show (cnt m i : Int) - 1 + 1 = ((cnt m (i + 1) - 1 : Nat) : Int) by omega, rd_nat]
      rw [show ((cnt m (i + 1) : Nat) : Int) - 1 = ((cnt m (i + 1) - 1 : Nat) : Int) by omega] at e
      exact e
    · rw [if_neg h] at hs
      rw [if_neg h, if_pos (by omega), if_pos (by omega), if_pos (by rw [unf_length]; omega)]
      rw [show (cnt m i : Int) - 1 = ((cnt m (i + 1) - 1 : Nat) : Int) by omega, rd_nat]
      rw [show ((cnt m (i + 1) : Nat) : Int) - 1 = ((cnt m (i + 1) - 1 : Nat) : Int) by omega] at e
      exact e
theorem radj {m l : List Int} (n : Nat) (hl : l.length ≤ 17592186043904) (B : Nat) (hB : ∀ k, B ≤ k → turnpikeref13_Unfold.l2 k m (n : Int) l [] (-1) 0 = some (unf m l n, 0)) : ∀ d k i : Nat, 1 ≤ i → (i + d = l.length ∨ d = 0 ∧ l.length ≤ i) → d + B < k →
    turnpikeref13_Unfold.l1 k m (n : Int) l (i : Int) = some (if noAdj l d i then (unf m l n, 0) else ([], 25)) := by
  intro d
  induction d with
  | zero =>
    intro k i h1 hi hk
    obtain ⟨k, rfl⟩ : ∃ m, k = m + 1 := ⟨k - 1, by omega⟩
    simp only [turnpikeref13_Unfold.l1, noAdj, if_true]
    rw [if_neg (by omega)]
    exact hB k (by omega)
  | succ d ih =>
    intro k i h1 hi hk
    obtain ⟨k, rfl⟩ : ∃ m, k = m + 1 := ⟨k - 1, by omega⟩
    simp only [turnpikeref13_Unfold.l1]
    rw [if_pos (by omega), w64 (x := (i : Int) - 1) (by omega) (by omega), w64 (x := (i : Int) + 1) (by omega) (by omega), show (i : Int) - 1 = ((i - 1 : Nat) : Int) by omega, rd_nat, rd_nat, if_pos (by omega), if_pos (by omega), if_pos (by omega)]
    by_cases e : l.getD (i - 1) 0 = l.getD i 0
    · rw [if_pos e.symm, show noAdj l (d + 1) i = false by simp only [noAdj]; rw [if_pos e]]; rfl
    · rw [if_neg (fun h => e h.symm), show noAdj l (d + 1) i = noAdj l d (i + 1) by rw [noAdj, if_neg e]]
      exact ih k (i + 1) (by omega) (by omega) (by omega)
/-- Behind the places past the last: the rest. -/
theorem rlast {m l : List Int} (hm : W32 m) (hml : m.length ≤ 3000) (n : Nat) (hn : n ≤ 32 * m.length) (r : List Int × Int) (B : Nat)
    (hB : ∀ k, B ≤ k → (if (n : Int) > 0 then ((turnpikeref13_Is.f m 0).bind fun t363 => (if t363 = true then ((turnpikeref13_Ones.f k m).bind fun t364 => (turnpikeref13_Unfold.j2 k m (n : Int) l (t364 != (l.length : Int)))) else (turnpikeref13_Unfold.j2 k m (n : Int) l true))) else ((turnpikeref13_Ones.f k m).bind fun t365 => (turnpikeref13_Unfold.j2 k m (n : Int) l (t365 != (l.length : Int))))) = some r) :
    ∀ d k i : Nat, i + d = 32 * m.length → d + B < k → turnpikeref13_Unfold.l0 k m (n : Int) l (i : Int) = some (if cnt m i = onesN m then r else ([], 25)) := by
  intro d
  induction d with
  | zero =>
    intro k i hi hk
    obtain ⟨k, rfl⟩ : ∃ m, k = m + 1 := ⟨k - 1, by omega⟩
    obtain rfl : i = 32 * m.length := by omega
    simp only [turnpikeref13_Unfold.l0]
    rw [w64 (by omega) (by omega), if_neg (by omega), hB k (by omega), if_pos (cnt_all m)]
  | succ d ih =>
    intro k i hi hk
    obtain ⟨k, rfl⟩ : ∃ m, k = m + 1 := ⟨k - 1, by omega⟩
    have hs := cnt_succ m i
    have hmo := cnt_mono m (show i + 1 ≤ 32 * m.length by omega)
    rw [cnt_all] at hmo
    have e := ih k (i + 1) (by omega) (by omega)
    simp only [turnpikeref13_Unfold.l0]
    rw [w64 (x := 32 * (m.length : Int)) (by omega) (by omega), if_pos (by omega), is_some hm (by omega) i (by omega), Option.bind_some, w64 (x := (i : Int) + 1) (by omega) (by omega)]
    by_cases h : bit m i = true
    · rw [if_pos h] at hs
      rw [if_pos h, if_neg (by omega)]
    · rw [if_neg h, Nat.add_zero] at hs
      rw [hs] at e
      rw [if_neg h]
      exact e
theorem runfold_ev {m l : List Int} (hm : W32 m) (hml : m.length ≤ 3000) (hl : l.length ≤ 17592186043904) (n : Int) (hn : n ≤ 9223372036854775807) : Ev (fun k => turnpikeref13_Unfold.f k m n l) (unfS m l n) := by
  unfold unfS
  by_cases h0 : n < 0
  · rw [if_pos h0]
    refine Ev.of (k := 0) (turnpikeref13_Unfold.mono m n l) ?_
    unfold turnpikeref13_Unfold.f
    rw [if_pos h0]
  · obtain ⟨n, rfl⟩ := Int.eq_ofNat_of_zero_le (show 0 ≤ n by omega)
    rw [if_neg h0, Int.toNat_natCast]
    obtain ⟨K1, e1⟩ : ∃ K, ∀ k, K ≤ k → turnpikeref13_Ones.f k m = some ((onesN m : Nat) : Int) := rones_ev hm (by omega)
    have bad0 : ∀ k, 1 ≤ k → turnpikeref13_Unfold.j0 k m (n : Int) l true = some ([], 25) := by
      intro k hk
      obtain ⟨k, rfl⟩ : ∃ m, k = m + 1 := ⟨k - 1, by omega⟩
      simp only [turnpikeref13_Unfold.j0, if_true]
    have bad2 : ∀ k, 1 ≤ k → turnpikeref13_Unfold.j2 k m (n : Int) l true = some ([], 25) := by
      intro k hk
      obtain ⟨k, rfl⟩ : ∃ m, k = m + 1 := ⟨k - 1, by omega⟩
      simp only [turnpikeref13_Unfold.j2, if_true]
    have start : ∀ k, turnpikeref13_Unfold.f k m (n : Int) l = turnpikeref13_Unfold.j0 k m (n : Int) l (decide (m.length ≠ (n + 31) / 32)) := by
      intro k
      unfold turnpikeref13_Unfold.f
      rw [if_neg h0, w64 (x := 32 * (m.length : Int)) (by omega) (by omega), w64 (x := (m.length : Int) - 1) (by omega) (by omega), w64 (x := 32 * ((m.length : Int) - 1)) (by omega) (by omega)]
      by_cases c : (n : Int) > 32 * (m.length : Int)
      · rw [if_pos c, decide_eq_true (by omega)]
      · rw [if_neg c]
        by_cases c2 : (m.length : Int) > 0
        · rw [if_pos c2]
          congr 1
          by_cases c3 : (n : Int) ≤ 32 * ((m.length : Int) - 1)
          · rw [decide_eq_true c3, decide_eq_true (by omega)]
          · rw [decide_eq_false c3, decide_eq_false (by omega)]
        · rw [if_neg c2, decide_eq_false (by omega)]
    by_cases c1 : m.length = (n + 31) / 32
    · have hj0 : ∀ k, turnpikeref13_Unfold.j0 (k + 1) m (n : Int) l (decide (m.length ≠ (n + 31) / 32)) = turnpikeref13_Unfold.l0 k m (n : Int) l (n : Int) := by
        intro k
        rw [decide_eq_false (by omega)]
        simp only [turnpikeref13_Unfold.j0, Bool.false_eq_true, if_false]
      have hcl : cnt m n ≤ onesN m := by rw [← cnt_all]; exact cnt_mono m (by omega)
      have hone := onesN_le m
      -- the tail
      obtain ⟨B, hB⟩ : ∃ B, ∀ k, B ≤ k → (if (n : Int) > 0 then ((turnpikeref13_Is.f m 0).bind fun t363 => (if t363 = true then ((turnpikeref13_Ones.f k m).bind fun t364 => (turnpikeref13_Unfold.j2 k m (n : Int) l (t364 != (l.length : Int)))) else (turnpikeref13_Unfold.j2 k m (n : Int) l true))) else ((turnpikeref13_Ones.f k m).bind fun t365 => (turnpikeref13_Unfold.j2 k m (n : Int) l (t365 != (l.length : Int)))))
          = some (if (decide (onesN m = l.length) && (decide (n = 0 ∨ bit m 0 = true) && noAdj l (l.length - 1) 1)) then (unf m l n, 0) else ([], 25)) := by
        by_cases c3 : n = 0 ∨ bit m 0 = true
        · refine ⟨K1 + n + l.length + 9, fun k hk => ?_⟩
          have tail : ((turnpikeref13_Ones.f k m).bind fun t365 => (turnpikeref13_Unfold.j2 k m (n : Int) l (t365 != (l.length : Int)))) = some (if (decide (onesN m = l.length) && (decide (n = 0 ∨ bit m 0 = true) && noAdj l (l.length - 1) 1)) then (unf m l n, 0) else ([], 25)) := by
            rw [e1 k (by omega), Option.bind_some, decide_eq_true c3]
            by_cases c2 : onesN m = l.length
            · rw [show (((onesN m : Nat) : Int) != (l.length : Int)) = false by rw [bne_eq_false_iff_eq]; omega, decide_eq_true c2]
              obtain ⟨k, rfl⟩ : ∃ m, k = m + 1 := ⟨k - 1, by omega⟩
              simp only [turnpikeref13_Unfold.j2, Bool.false_eq_true, if_false]
              exact radj n hl (n + 1) (fun k hk => rbuild hm n hml (by omega) c3 (by omega) n k 0 (by omega) (by omega)) (l.length - 1) k 1 (by omega) (by omega) (by omega)
            · rw [show (((onesN m : Nat) : Int) != (l.length : Int)) = true by rw [bne_iff_ne]; omega, decide_eq_false c2, bad2 k (by omega)]; rfl
          by_cases c : (n : Int) > 0
          · rw [if_pos c, show (0 : Int) = ((0 : Nat) : Int) from rfl, is_some hm (by omega) 0 (by omega), Option.bind_some, if_pos (c3.resolve_left (by omega))]
            exact tail
          · rw [if_neg c]
            exact tail
        · refine ⟨1, fun k hk => ?_⟩
          rw [if_pos (by omega), show (0 : Int) = ((0 : Nat) : Int) from rfl, is_some hm (by omega) 0 (by omega), Option.bind_some, if_neg (fun h => c3 (.inr h)), bad2 k hk, decide_eq_false c3, Bool.false_and, Bool.and_false]
          rfl
      refine Ev.of (k := 32 * m.length + B + 3) (turnpikeref13_Unfold.mono m (n : Int) l) ?_
      rw [start, hj0, rlast hm hml n (by omega) _ B hB (32 * m.length - n) _ n (by omega) (by omega)]
      unfold goodU
      rw [decide_eq_true c1]
      by_cases c4 : cnt m n = onesN m
      · rw [if_pos c4, decide_eq_true c4]; simp
      · rw [if_neg c4, decide_eq_false c4]; simp
    · refine Ev.of (k := 1) (turnpikeref13_Unfold.mono m (n : Int) l) ?_
      rw [start, decide_eq_true c1, bad0 1 (Nat.le_refl _)]
      unfold goodU
      rw [decide_eq_false c1]; rfl
end Go.Proofs.Ytpehkbkbfpbolaa.Ru
