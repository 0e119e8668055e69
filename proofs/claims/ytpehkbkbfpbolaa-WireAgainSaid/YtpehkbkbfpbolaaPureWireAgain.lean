/- For every bitmap, number and row: what wire.Unfold takes wire.Fold tells again; what it refuses comes with an empty row. No conditions. -/
import Derived.Test.YtpehkbkbfpbolaaAg
import Derived.Test.YtpehkbkbfpbolaaPWx44
namespace Go.Proofs.Ytpehkbkbfpbolaa.Pure
open Go.RowKit Go.Proofs.Ytpehkbkbfpbolaa.PW Go.Proofs.Ytpehkbkbfpbolaa.Pl Go.Proofs.Ytpehkbkbfpbolaa.Fd Go.Proofs.Ytpehkbkbfpbolaa.Bm Go.Proofs.Ytpehkbkbfpbolaa.Se Go.Proofs.Ytpehkbkbfpbolaa.Uf Go.Proofs.Ytpehkbkbfpbolaa.Ag Go.Proofs.YtpehkbkbfpbolaaW.PrintWords Go.Proofs.YtpehkbkbfpbolaaW.PrintLast
theorem WireAgain : turnpikelaw13_WireAgain.Pure := by
  intro m n l _ h0 wm wn _ h1 _
  have hm := w32_of_wf wm
  have hn := bounds_i64 wn
  unfold turnpikelaw13_WireAgain.f turnpikelaw13_known.f
  by_cases c : (m.length : Int) > 3000
  · refine ⟨0, ?_⟩
    rw [Option.bind_some, if_pos rfl, if_pos c]
  · have hl : l.length ≤ 17592186043904 := by omega
    have hml : m.length ≤ 3000 := by omega
    obtain ⟨K1, e1⟩ : ∃ K, ∀ k, K ≤ k → wire_Unfold_int.f k m n l = some (unfS m l n) := unfold_ev hm hml hl n hn.2
    by_cases c0 : n < 0
    · refine ⟨K1, ?_⟩
      rw [Option.bind_some, if_pos rfl, if_neg c, e1 _ (by omega), Option.bind_some]
      unfold unfS
      rw [if_pos c0, if_neg (by decide)]
      rfl
    · by_cases hg : goodU m l n.toNat = true
      · have hlen : (unf m l n.toNat).length ≤ 96000 := by
          have hg' := hg
          unfold goodU at hg'
          have h3 := of_decide_eq_true (Bool.and_eq_true_iff.1 hg').1
          rw [unf_length]; omega
        obtain ⟨K2, e2⟩ : ∃ K, ∀ k, K ≤ k → wire_Fold_int.f k (unf m l n.toNat) = some (fold (unf m l n.toNat)) := fold_ev _ (by omega)
        rw [fold_unf hm n.toNat hg] at e2
        obtain ⟨K3, e3⟩ : ∃ K, ∀ k, K ≤ k → turnpikelaw13_same32.f k m m = some true := same32_ev m (by omega)
        obtain ⟨K4, e4⟩ : ∃ K, ∀ k, K ≤ k → turnpikelaw13_sameInts.f k l l = some true := sameInts_ev l (by omega)
        refine ⟨max (max K1 K2) (max K3 K4), ?_⟩
        rw [Option.bind_some, if_pos rfl, if_neg c, e1 _ (by omega), Option.bind_some]
        unfold unfS
        rw [if_neg c0, if_pos hg, if_pos rfl, e2 _ (by omega), Option.bind_some, unf_length, if_pos (by omega), e3 _ (by omega), Option.bind_some, if_pos rfl, e4 _ (by omega)]
        rfl
      · refine ⟨K1, ?_⟩
        rw [Option.bind_some, if_pos rfl, if_neg c, e1 _ (by omega), Option.bind_some]
        unfold unfS
        rw [if_neg c0, if_neg hg, if_neg (by decide)]
        rfl
end Go.Proofs.Ytpehkbkbfpbolaa.Pure
