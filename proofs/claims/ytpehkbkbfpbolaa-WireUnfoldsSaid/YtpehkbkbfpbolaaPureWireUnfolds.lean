/- For every bitmap, number and row of numbers wire.Unfold tells what the document's does. No conditions. -/
import Derived.Test.YtpehkbkbfpbolaaRu
import Derived.Test.YtpehkbkbfpbolaaPWx43
namespace Go.Proofs.Ytpehkbkbfpbolaa.Pure
open Go.RowKit Go.Proofs.Ytpehkbkbfpbolaa.PW Go.Proofs.Ytpehkbkbfpbolaa.Pl Go.Proofs.Ytpehkbkbfpbolaa.Fd Go.Proofs.Ytpehkbkbfpbolaa.Bm Go.Proofs.Ytpehkbkbfpbolaa.Se Go.Proofs.Ytpehkbkbfpbolaa.Uf Go.Proofs.Ytpehkbkbfpbolaa.Ru Go.Proofs.YtpehkbkbfpbolaaW.PrintWords Go.Proofs.YtpehkbkbfpbolaaW.PrintLast
theorem WireUnfolds : turnpikelaw13_WireUnfolds.Pure := by
  intro m n l _ h0 wm wn _ h1 _
  have hm := w32_of_wf wm
  have hn := bounds_i64 wn
  unfold turnpikelaw13_WireUnfolds.f turnpikelaw13_known.f
  by_cases c : (m.length : Int) > 3000
  · refine ⟨0, ?_⟩
    rw [Option.bind_some, if_pos rfl, if_pos c]
  · have hl : l.length ≤ 17592186043904 := by omega
    have hml : m.length ≤ 3000 := by omega
    obtain ⟨K1, e1⟩ : ∃ K, ∀ k, K ≤ k → wire_Unfold_int.f k m n l = some (unfS m l n) := unfold_ev hm hml hl n hn.2
    obtain ⟨K2, e2⟩ : ∃ K, ∀ k, K ≤ k → turnpikeref13_Unfold.f k m n l = some (unfS m l n) := runfold_ev hm hml hl n hn.2
    have hlen : (unfS m l n).1.length ≤ 96000 := by
      unfold unfS
      split
      · decide
      · split
        · rename_i hg
          unfold goodU at hg
          have h3 := of_decide_eq_true (Bool.and_eq_true_iff.1 hg).1
          rw [unf_length]; omega
        · decide
    obtain ⟨K3, e3⟩ : ∃ K, ∀ k, K ≤ k → turnpikelaw13_sameInts.f k (unfS m l n).1 (unfS m l n).1 = some true := sameInts_ev _ (by omega)
    refine ⟨max (max K1 K2) K3, ?_⟩
    rw [Option.bind_some, if_pos rfl, if_neg c, Option.bind_some]
    simp only [List.nil_append, List.length_nil, Nat.zero_add]
    rw [if_pos (by omega), Option.bind_some]
    simp only [List.nil_append, List.length_nil, Nat.zero_add]
    rw [if_pos (by omega), e1 _ (by omega), Option.bind_some, e2 _ (by omega), Option.bind_some, e3 _ (by omega), Option.bind_some, if_pos rfl]
    simp
end Go.Proofs.Ytpehkbkbfpbolaa.Pure
