/- For every bitmap, place and number: wire's Rank, Select and Ones tell what the document's do, and leave their argument as it was. No conditions. -/
import Derived.Test.YtpehkbkbfpbolaaSe
import Derived.Test.YtpehkbkbfpbolaaPWx39
namespace Go.Proofs.Ytpehkbkbfpbolaa.Pure
open Go.RowKit Go.Proofs.Ytpehkbkbfpbolaa.PW Go.Proofs.Ytpehkbkbfpbolaa.Pl Go.Proofs.Ytpehkbkbfpbolaa.Fd Go.Proofs.Ytpehkbkbfpbolaa.Bm Go.Proofs.Ytpehkbkbfpbolaa.Se Go.Proofs.YtpehkbkbfpbolaaW.PrintWords Go.Proofs.YtpehkbkbfpbolaaW.PrintLast
theorem WireRanks : turnpikelaw13_WireRanks.Pure := by
  intro m a b _ h0 wm wa wb
  have hm := w32_of_wf wm
  have hl : m.length ≤ 35184372087808 := by omega
  have ha := bounds_i64 wa
  have hb := bounds_i64 wb
  obtain ⟨K1, e1⟩ : ∃ K, ∀ k, K ≤ k → wire_Rank.f k m a = some (rankS m a) := rank_ev hm hl a ha.1 ha.2
  obtain ⟨K2, e2⟩ : ∃ K, ∀ k, K ≤ k → turnpikeref13_Rank.f k m a = some (rankS m a) := rrank_ev hm hl a ha.1 ha.2
  obtain ⟨r, g1, g2⟩ := select_both hm hl b hb.2
  obtain ⟨K3, e3⟩ : ∃ K, ∀ k, K ≤ k → wire_Select.f k m b = some r := g1
  obtain ⟨K4, e4⟩ : ∃ K, ∀ k, K ≤ k → turnpikeref13_Select.f k m b = some r := g2
  obtain ⟨K5, e5⟩ : ∃ K, ∀ k, K ≤ k → wire_Ones.f k m = some ((onesN m : Nat) : Int) := ones_ev hm hl
  obtain ⟨K6, e6⟩ : ∃ K, ∀ k, K ≤ k → turnpikeref13_Ones.f k m = some ((onesN m : Nat) : Int) := rones_ev hm hl
  obtain ⟨K7, e7⟩ : ∃ K, ∀ k, K ≤ k → turnpikelaw13_same32.f k m m = some true := same32_ev m (by omega)
  refine ⟨max (max (max K1 K2) (max K3 K4)) (max (max K5 K6) K7), ?_⟩
  unfold turnpikelaw13_WireRanks.f turnpikelaw13_known.f
  rw [Option.bind_some, if_pos rfl]
  by_cases c : (m.length : Int) > 3000
  · rw [if_pos c]
  · rw [if_neg c, Option.bind_some]
    simp only [List.nil_append, List.length_nil, Nat.zero_add]
    rw [if_pos (by omega), Option.bind_some, e1 _ (by omega), Option.bind_some, e3 _ (by omega), Option.bind_some, e5 _ (by omega), Option.bind_some, e2 _ (by omega), Option.bind_some, e4 _ (by omega), Option.bind_some, e7 _ (by omega), Option.bind_some, e6 _ (by omega), Option.bind_some]
    rw [if_pos rfl]
    simp only [if_true]
    simp
end Go.Proofs.Ytpehkbkbfpbolaa.Pure
