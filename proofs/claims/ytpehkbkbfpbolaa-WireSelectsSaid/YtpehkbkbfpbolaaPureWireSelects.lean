/- Select and Rank agree on every bitmap of at most 300 words. -/
import Derived.Test.YtpehkbkbfpbolaaSe
import Derived.Test.YtpehkbkbfpbolaaPWx40
set_option linter.unusedSimpArgs false
set_option linter.unusedVariables false
namespace Go.Proofs.Ytpehkbkbfpbolaa.Pure
open Go.RowKit Go.Proofs.Ytpehkbkbfpbolaa.PW Go.Proofs.Ytpehkbkbfpbolaa.Pl Go.Proofs.Ytpehkbkbfpbolaa.Fd Go.Proofs.Ytpehkbkbfpbolaa.Bm Go.Proofs.Ytpehkbkbfpbolaa.Se Go.Proofs.YtpehkbkbfpbolaaW.PrintWords Go.Proofs.YtpehkbkbfpbolaaW.PrintLast
theorem sels_bit {m : List Int} (hm : W32 m) (p : Nat) : Go.bits .and .u32 (shr .u32 (rd m ((p / 32 : Nat) : Int)) ((31 - p % 32 : Nat) : Int)) 1 = if bit m p = true then 1 else 0 := by
  have hw := w32_get hm (p / 32)
  rw [rd_nat, get_nat hm, shr_nat _ _ (by omega), and1 _ (div_lt32 _ _ (by omega))]
  unfold bit
  rw [Nat.testBit_eq_decide_div_mod_eq]
  have := Nat.mod_lt ((m.getD (p / 32) 0).toNat / 2 ^ (31 - p % 32)) (show 2 > 0 by decide)
  by_cases h : (m.getD (p / 32) 0).toNat / 2 ^ (31 - p % 32) % 2 = 1
  · rw [h]; rfl
  · rw [show (m.getD (p / 32) 0).toNat / 2 ^ (31 - p % 32) % 2 = 0 by omega]; rfl
theorem sels_neg {m : List Int} {a : Int} (h : a < 0) (k : Nat) : wire_Select.f k m a = some (0, 2) := by
  unfold wire_Select.f; rw [if_pos h]
theorem within5 (a : Int) : ∃ t : Int, turnpikelaw13_within.f a 5 = some t ∧ 0 ≤ t ∧ t < 5 := by
  have h1 := Int.tmod_lt_of_pos a (show (0 : Int) < 5 by decide)
  have h2 : -5 < Int.tmod a 5 := by
    have := Int.lt_tmod_of_pos a (show (0 : Int) < 5 by decide)
    omega
  unfold turnpikelaw13_within.f
  rw [if_neg (by decide)]
  by_cases c : Int.tmod a 5 < 0
  · rw [if_pos c, w64 (by omega) (by omega)]; exact ⟨_, rfl, by omega, by omega⟩
  · rw [if_neg c]; exact ⟨_, rfl, by omega, by omega⟩
theorem sels {m : List Int} (hm : W32 m) (hl : m.length ≤ 300) (a1 : Int) : ∀ d p : Nat, p + d = 32 * m.length → ∃ K, ∀ k, K ≤ k → turnpikelaw13_WireSelects.l0 k m a1 ((onesN m : Nat) : Int) ((cnt m p : Nat) : Int) ((cnt m p : Nat) : Int) (p : Int) = some true := by
  intro d
  induction d with
  | zero =>
    intro p hp
    obtain ⟨t, e2, t0, t5⟩ := within5 a1
    obtain ⟨K1, e1⟩ : ∃ K, ∀ k, K ≤ k → wire_Select.f k m ((onesN m : Nat) : Int) = some (0, 2) := sel_none hm (by omega) (onesN m) (Nat.le_refl _) (by have := onesN_le m; omega)
    refine ⟨K1 + 1, fun k hk => ?_⟩
    obtain ⟨k, rfl⟩ : ∃ q, k = q + 1 := ⟨k - 1, by omega⟩
    rw [turnpikelaw13_WireSelects.l0, w64 (x := 32 * (m.length : Int)) (by omega) (by omega), if_neg (by omega), e1 k (by omega), Option.bind_some, e2, Option.bind_some, w64 (x := -1 - t) (by omega) (by omega), sels_neg (by omega), Option.bind_some]
    rw [show p = 32 * m.length by omega, cnt_all, if_pos rfl, if_pos rfl, if_pos rfl]
    rfl
  | succ d ih =>
    intro p hp
    obtain ⟨K0, e0⟩ := ih (p + 1) (by omega)
    obtain ⟨K1, e1⟩ : ∃ K, ∀ k, K ≤ k → wire_Rank.f k m (p : Int) = some (rankS m (p : Int)) := rank_ev hm (by omega) p (by omega) (by omega)
    have er : rankS m (p : Int) = (((cnt m (p + 1) : Nat) : Int), 0) := by
      unfold rankS; rw [if_neg (by omega), Int.toNat_natCast]
    rw [er] at e1
    have g1 := tmod_nat p 32
    have g2 := tdiv_nat p 32
    rw [show (((32 : Nat) : Int)) = 32 from rfl] at g1 g2
    have hc := cnt_le m p
    have hs := cnt_succ m p
    have hb := sels_bit hm p
    cases b : bit m p
    · rw [b] at hs hb
      rw [if_neg (by decide)] at hb
      rw [if_neg (by decide)] at hs
      refine ⟨max K0 K1 + 2, fun k hk => ?_⟩
      obtain ⟨k, rfl⟩ : ∃ q, k = q + 2 := ⟨k - 2, by omega⟩
      rw [turnpikelaw13_WireSelects.l0, w64 (x := 32 * (m.length : Int)) (by omega) (by omega), if_pos (by omega), e1 (k + 1) (by omega), Option.bind_some, g1, g2, w64 (x := ((p / 32 : Nat) : Int)) (by omega) (by omega), w64 (x := 31 - ((p % 32 : Nat) : Int)) (by omega) (by omega)]
      rw [show (31 - ((p % 32 : Nat) : Int)) = ((31 - p % 32 : Nat) : Int) by omega, if_pos (by omega), if_pos (by omega), if_pos (by omega), hb]
      rw [if_pos rfl, if_neg (by decide), if_neg (by decide), hs, Nat.add_zero]
      rw [turnpikelaw13_WireSelects.j2, if_neg (by simp), if_neg (by decide), w64 (x := (p : Int) + 1) (by omega) (by omega)]
      have := e0 k (by omega)
      rw [hs, Nat.add_zero] at this
      exact_mod_cast this
    · rw [b] at hs hb
      rw [if_pos rfl] at hb hs
      obtain ⟨K2, e2⟩ : ∃ K, ∀ k, K ≤ k → wire_Select.f k m ((cnt m p : Nat) : Int) = some ((p : Int), 0) := sel_found hm (by omega) p (by omega) b
      refine ⟨max (max K0 K1) K2 + 2, fun k hk => ?_⟩
      obtain ⟨k, rfl⟩ : ∃ q, k = q + 2 := ⟨k - 2, by omega⟩
      rw [turnpikelaw13_WireSelects.l0, w64 (x := 32 * (m.length : Int)) (by omega) (by omega), if_pos (by omega), e1 (k + 1) (by omega), Option.bind_some, g1, g2, w64 (x := ((p / 32 : Nat) : Int)) (by omega) (by omega), w64 (x := 31 - ((p % 32 : Nat) : Int)) (by omega) (by omega)]
      rw [show (31 - ((p % 32 : Nat) : Int)) = ((31 - p % 32 : Nat) : Int) by omega, if_pos (by omega), if_pos (by omega), if_pos (by omega), hb]
      rw [if_pos rfl, if_pos rfl, hs, w64 (x := ((cnt m p : Nat) : Int) + 1) (by omega) (by omega), if_pos (by omega), if_pos rfl]
      rw [turnpikelaw13_WireSelects.j2, if_neg (by decide), if_pos (by decide), e2 k (by omega), Option.bind_some, if_pos rfl, if_pos rfl, w64 (x := ((cnt m p : Nat) : Int) + 1) (by omega) (by omega), w64 (x := (p : Int) + 1) (by omega) (by omega)]
      have := e0 k (by omega)
      rw [hs] at this
      exact_mod_cast this
theorem WireSelects : turnpikelaw13_WireSelects.Pure := by
  intro m a _ h0 wm wa
  have hm := w32_of_wf wm
  have hl : m.length ≤ 35184372087808 := by omega
  by_cases c : m.length = 0 ∨ 300 < m.length
  · refine ⟨1, ?_⟩
    unfold turnpikelaw13_WireSelects.f turnpikelaw13_known.f
    rw [Option.bind_some, if_pos rfl]
    by_cases z : (m.length : Int) = 0
    · rw [if_pos z, turnpikelaw13_WireSelects.j0, if_pos rfl]
    · rw [if_neg z, turnpikelaw13_WireSelects.j0, if_pos (decide_eq_true (by omega))]
  · obtain ⟨K1, e1⟩ : ∃ K, ∀ k, K ≤ k → wire_Ones.f k m = some ((onesN m : Nat) : Int) := ones_ev hm hl
    obtain ⟨K2, e2⟩ := sels hm (by omega) a (32 * m.length) 0 (by omega)
    refine ⟨max K1 K2 + 1, ?_⟩
    unfold turnpikelaw13_WireSelects.f turnpikelaw13_known.f
    rw [Option.bind_some, if_pos rfl, if_neg (by omega), turnpikelaw13_WireSelects.j0, if_neg (by simp; omega), e1 _ (by omega), Option.bind_some]
    exact e2 _ (by omega)
end Go.Proofs.Ytpehkbkbfpbolaa.Pure
