/- For every two rows of bytes delta.Diff tells the document's patches and leaves its arguments as they were. No conditions. -/
import Derived.Test.YtlfkbkobkibemaaDf
import Derived.Test.YtlfkbkobkibemaaPDx7
namespace Go.Proofs.Ytlfkbkobkibemaa.Pure
open Go.RowKit Go.Proofs.Ytlfkbkobkibemaa.PD Go.Proofs.Ytlfkbkobkibemaa.Pl Go.Proofs.Ytlfkbkobkibemaa.Df Go.Proofs.YtlfkbkobkibemaaW.PrintWords Go.Proofs.YtlfkbkobkibemaaW.PrintLast
theorem DeltaDiffs : turnpikelaw21_DeltaDiffs.Pure := by
  intro a b _ h0 wa _ h1 wb
  rw [Nat.mul_one] at h0 h1
  have ha := bytes_of_wf wa
  have hb := bytes_of_wf wb
  obtain ⟨K1, e1⟩ : ∃ K, ∀ k, K ≤ k → delta_Diff.f k a b = some (dspec a b) := diff_ev ha hb h0 h1
  obtain ⟨K2, e2⟩ : ∃ K, ∀ k, K ≤ k → turnpikeref21_Diff.f k a b = some (dspec a b) := rdiff_ev ha hb h0 h1
  obtain ⟨K3, e3⟩ : ∃ K, ∀ k, K ≤ k → turnpikelaw21_Same.f k (dspec a b) (dspec a b) = some true := same_ev (dspec a b) (dspec_small a b)
  refine ⟨max K1 (max K2 K3) + 1, ?_⟩
  unfold turnpikelaw21_DeltaDiffs.f turnpikelaw21_known.f
  simp only [Option.bind_some, if_true]
  have key : turnpikelaw21_DeltaDiffs.j0 (max K1 (max K2 K3) + 1) a b true = some true ∧ (b.length ≤ 32768 → turnpikelaw21_DeltaDiffs.j0 (max K1 (max K2 K3) + 1) a b false = some true) := by
    refine ⟨by simp only [turnpikelaw21_DeltaDiffs.j0, if_true], fun hb' => ?_⟩
    simp only [turnpikelaw21_DeltaDiffs.j0, Bool.false_eq_true, if_false, Option.bind_some, List.nil_append, List.length_nil, Nat.zero_add]
    rw [if_pos (by omega), if_pos (by omega), e1 _ (by omega), e2 _ (by omega)]
    simp only [Option.bind_some]
    rw [e3 _ (by omega)]
    simp
  split
  · exact key.1
  · by_cases c : (b.length : Int) > 32768
    · rw [decide_eq_true c]; exact key.1
    · rw [decide_eq_false c]; exact key.2 (by omega)
end Go.Proofs.Ytlfkbkobkibemaa.Pure
