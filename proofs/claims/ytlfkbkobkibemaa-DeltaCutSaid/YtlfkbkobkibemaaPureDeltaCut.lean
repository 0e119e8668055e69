/- For every row of bytes from which one stretch is taken out: delta.Diff brings no byte to the shorter row, and back no more than the stretch has. No conditions. -/
import Derived.Test.YtlfkbkobkibemaaDf
import Derived.Test.YtlfkbkobkibemaaPDx10
namespace Go.Proofs.Ytlfkbkobkibemaa.Pure
open Go.RowKit Go.Proofs.Ytlfkbkobkibemaa.PD Go.Proofs.Ytlfkbkobkibemaa.Pl Go.Proofs.Ytlfkbkobkibemaa.Df Go.Proofs.YtlfkbkobkibemaaW.PrintWords Go.Proofs.YtlfkbkobkibemaaW.PrintLast
theorem within_some (a : Int) (n : Int) (h0 : 0 < n) (h1 : n ≤ 140737488351233) : ∃ r : Nat, (r : Int) < n ∧ turnpikelaw21_within.f a n = some (r : Int) := by
  have hlo := Int.lt_tmod_of_pos a h0
  have hhi := Int.tmod_lt_of_pos a h0
  unfold turnpikelaw21_within.f
  rw [if_neg (by omega)]
  split
  · rename_i hn
    rw [w64 (by omega) (by omega)]
    exact ⟨(Int.tmod a n + n).toNat, by omega, by congr 1; omega⟩
  · rename_i hn
    exact ⟨(Int.tmod a n).toNat, by omega, by congr 1; omega⟩
theorem DeltaCut : turnpikelaw21_DeltaCut.Pure := by
  intro a x y _ h0 wa _ _
  rw [Nat.mul_one] at h0
  have ha := bytes_of_wf wa
  have e0 : wrap64 ((a.length : Int) + 1) = (a.length : Int) + 1 := w64 (by omega) (by omega)
  obtain ⟨i, hi, ei⟩ := within_some x ((a.length : Int) + 1) (by omega) (by omega)
  have e1 : wrap64 (wrap64 ((a.length : Int) - (i : Int)) + 1) = (a.length : Int) - i + 1 := by
    rw [w64 (x := (a.length : Int) - (i : Int)) (by omega) (by omega), w64 (by omega) (by omega)]
  obtain ⟨n, hn, en⟩ := within_some y ((a.length : Int) - i + 1) (by omega) (by omega)
  have e2 : wrap64 ((i : Int) + (n : Int)) = ((i + n : Nat) : Int) := by rw [w64 (by omega) (by omega)]; omega
  have e3 : wrap64 (((i + n : Nat) : Int) - (i : Int)) = (n : Int) := by rw [w64 (by omega) (by omega)]; omega
  obtain ⟨b, hb⟩ : ∃ b, b = a.take i ++ a.drop (i + n) := ⟨_, rfl⟩
  obtain ⟨c1, c2, c3, c4, c5⟩ := cut_lens a (i := i) (j := i + n) (by omega) (by omega) b hb
  have hbB : Bytes b := by rw [hb]; exact bytes_append (bytes_take ha _) (bytes_drop ha _)
  have hbl : b.length ≤ 140737488351232 := by omega
  have hpl := lcp_le a b
  have w0 : wsum (dspec a b) = 0 := by
    rw [dspec_weight]; split
    · rfl
    · omega
  have w1 : wsum (dspec b a) ≤ n := by
    rw [dspec_weight]; split
    · omega
    · rw [c4, c5]; omega
  obtain ⟨K1, f1⟩ : ∃ K, ∀ k, K ≤ k → delta_Diff.f k a b = some (dspec a b) := diff_ev ha hbB h0 hbl
  obtain ⟨K2, f2⟩ : ∃ K, ∀ k, K ≤ k → delta_Diff.f k b a = some (dspec b a) := diff_ev hbB ha hbl h0
  obtain ⟨K3, f3⟩ : ∃ K, ∀ k, K ≤ k → delta_Weight.f k (dspec a b) = some ((wsum (dspec a b) : Nat) : Int) := weight_ev _ (dspec_small a b) (by omega)
  obtain ⟨K4, f4⟩ : ∃ K, ∀ k, K ≤ k → delta_Weight.f k (dspec b a) = some ((wsum (dspec b a) : Nat) : Int) := weight_ev _ (dspec_small b a) (by omega)
  refine ⟨max (max K1 K2) (max K3 K4), ?_⟩
  unfold turnpikelaw21_DeltaCut.f turnpikelaw21_known.f
  simp only [Option.bind_some, if_true]
  split
  · rfl
  · rw [e0, ei]
    simp only [Option.bind_some]
    rw [e1, en]
    simp only [Option.bind_some, List.nil_append, List.length_nil, Nat.zero_add]
    rw [e2, if_pos (by omega), if_pos (by omega), if_pos (by rw [List.length_take]; omega), if_pos (by omega), if_pos (by omega)]
    simp only [Int.toNat_natCast]
    rw [if_pos (by rw [List.length_take, List.length_drop]; omega), ← hb, f1 _ (by omega), f2 _ (by omega)]
    simp only [Option.bind_some]
    rw [f3 _ (by omega), f4 _ (by omega), w0]
    simp only [Option.bind_some]
    rw [if_pos (show ((0 : Nat) : Int) = 0 from rfl), e3, if_pos (by omega)]
    have hab : a = b ↔ n = 0 := by
      constructor
      · intro h; have := congrArg List.length h; omega
      · intro h; rw [hb, h, Nat.add_zero, List.take_append_drop]
    have hlen : (dspec b a).length = (dspec a b).length := by
      rw [dspec_len, dspec_len]
      by_cases h : a = b
      · rw [if_pos h, if_pos h.symm]
      · rw [if_neg h, if_neg (fun e => h e.symm)]
    rw [hlen, dspec_len]
    by_cases h : a = b
    · have hn0 := hab.1 h
      subst hn0
      rw [if_pos h]
      simp
    · have hn0 : n ≠ 0 := fun e => h (hab.2 e)
      rw [if_neg h, if_pos (by
        have : ((i : Int) == ((i + n : Nat) : Int)) = false := by rw [beq_eq_false_iff_ne]; omega
        rw [this]; rfl)]
      rfl
end Go.Proofs.Ytlfkbkobkibemaa.Pure
