/- For every two rows of bytes delta.Parse tells what the document's Parse tells, patches and error. No conditions. -/
import Derived.Test.YtlfkbkobkibemaaPr
import Derived.Test.YtlfkbkobkibemaaPTx32
namespace Go.Proofs.Ytlfkbkobkibemaa.Pure
open Go.RowKit Go.Proofs.Ytlfkbkobkibemaa.PT Go.Proofs.Ytlfkbkobkibemaa.Pl Go.Proofs.Ytlfkbkobkibemaa.Df Go.Proofs.Ytlfkbkobkibemaa.Pr Go.Proofs.YtlfkbkobkibemaaW.PrintWords Go.Proofs.YtlfkbkobkibemaaW.PrintLast
theorem DeltaReads : turnpikelaw21_DeltaReads.Pure := by
  intro a b _ h0 wa _ h1 wb
  have ha := bytes_of_wf wa
  have hb := bytes_of_wf wb
  have key : ∃ k, turnpikelaw21_DeltaReads.j0 k a b true = some true ∧ (a.length ≤ 32768 → b.length ≤ 32768 → turnpikelaw21_DeltaReads.j0 k a b false = some true) := by
    by_cases c : a.length ≤ 32768 ∧ b.length ≤ 32768
    · obtain ⟨K1, e1⟩ := parse_ev ha hb (by omega) (by omega)
      obtain ⟨K2, e2⟩ := rparse_ev ha hb (by omega) (by omega)
      obtain ⟨K3, e3⟩ := same_ev (parseS a b).1 (parse_small hb (by omega))
      refine ⟨max K1 (max K2 K3) + 1, by simp only [turnpikelaw21_DeltaReads.j0, if_true], fun _ _ => ?_⟩
      simp only [turnpikelaw21_DeltaReads.j0, Bool.false_eq_true, if_false, Option.bind_some, List.nil_append, List.length_nil, Nat.zero_add]
      rw [if_pos (by omega), if_pos (by omega), show delta_Parse.f (max K1 (max K2 K3)) a b = _ from e1 _ (by omega), Option.bind_some, show turnpikeref21_Parse.f (max K1 (max K2 K3)) a b = _ from e2 _ (by omega), Option.bind_some, show turnpikelaw21_Same.f (max K1 (max K2 K3)) _ _ = _ from e3 _ (by omega), Option.bind_some]
      simp
    · exact ⟨1, by simp only [turnpikelaw21_DeltaReads.j0, if_true], fun h h' => absurd ⟨h, h'⟩ c⟩
  obtain ⟨k, k1, k2⟩ := key
  refine ⟨k, ?_⟩
  unfold turnpikelaw21_DeltaReads.f turnpikelaw21_known.f
  simp only [Option.bind_some, if_true]
  split
  · exact k1
  · by_cases c : (b.length : Int) > 32768
    · rw [decide_eq_true c]; exact k1
    · rw [decide_eq_false c]; exact k2 (by omega) (by omega)
end Go.Proofs.Ytlfkbkobkibemaa.Pure
