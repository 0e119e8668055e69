/- For every row of numbers wire.Fold tells the document's bitmap and runs, and leaves its argument as it was. No conditions. -/
import Derived.Test.YtpehkbkbfpbolaaFd
import Derived.Test.YtpehkbkbfpbolaaPWx14
namespace Go.Proofs.Ytpehkbkbfpbolaa.Pure
open Go.RowKit Go.Proofs.Ytpehkbkbfpbolaa.PW Go.Proofs.Ytpehkbkbfpbolaa.Pl Go.Proofs.Ytpehkbkbfpbolaa.Fd Go.Proofs.YtpehkbkbfpbolaaW.PrintWords Go.Proofs.YtpehkbkbfpbolaaW.PrintLast
theorem WireFolds : turnpikelaw13_WireFolds.Pure := by
  intro l _ h0 _
  have hl : l.length ≤ 17592186043904 := by omega
  obtain ⟨f1, f2⟩ := fold_len l
  obtain ⟨K1, e1⟩ : ∃ K, ∀ k, K ≤ k → wire_Fold_int.f k l = some (fold l) := fold_ev l hl
  obtain ⟨K2, e2⟩ : ∃ K, ∀ k, K ≤ k → turnpikeref13_Fold.f k l = some (fold l) := rfold_ev l hl
  obtain ⟨K3, e3⟩ : ∃ K, ∀ k, K ≤ k → turnpikelaw13_sameInts.f k l l = some true := sameInts_ev l (by omega)
  obtain ⟨K4, e4⟩ : ∃ K, ∀ k, K ≤ k → turnpikelaw13_same32.f k (fold l).1 (fold l).1 = some true := same32_ev _ (by omega)
  obtain ⟨K5, e5⟩ : ∃ K, ∀ k, K ≤ k → turnpikelaw13_sameInts.f k (fold l).2 (fold l).2 = some true := sameInts_ev _ (by omega)
  refine ⟨max (max (max K1 K2) K3) (max K4 K5), ?_⟩
  unfold turnpikelaw13_WireFolds.f turnpikelaw13_known.f
  simp only [Option.bind_some, if_true, List.nil_append, List.length_nil, Nat.zero_add]
  rw [if_pos (by omega), e1 _ (by omega), e2 _ (by omega), e3 _ (by omega)]
  simp only [Option.bind_some, if_true]
  rw [e4 _ (by omega)]
  simp only [Option.bind_some, if_true]
  rw [e5 _ (by omega)]
  rfl
end Go.Proofs.Ytpehkbkbfpbolaa.Pure
