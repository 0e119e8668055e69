/- For every two rows of bytes the patches that delta.Diff tells make the second row of the first, are at most one, none just where the rows are equal, bring no more bytes than the second has, and are read again as they were written. No conditions. -/
import Derived.Test.YtlfkbkobkibemaaAp
import Derived.Test.YtlfkbkobkibemaaPTx34
set_option linter.unusedSimpArgs false
set_option linter.unusedVariables false
namespace Go.Proofs.Ytlfkbkobkibemaa.Pure
open Go.RowKit Go.Proofs.Ytlfkbkobkibemaa.PT Go.Proofs.Ytlfkbkobkibemaa.Pl Go.Proofs.Ytlfkbkobkibemaa.Df Go.Proofs.Ytlfkbkobkibemaa.Pq Go.Proofs.Ytlfkbkobkibemaa.Pr Go.Proofs.Ytlfkbkobkibemaa.Ap Go.Proofs.YtlfkbkobkibemaaW.PrintWords Go.Proofs.YtlfkbkobkibemaaW.PrintLast
theorem ext_getD {x y : List Int} (hl : x.length = y.length) (h : ∀ j, j < x.length → x.getD j 0 = y.getD j 0) : x = y := by
  refine List.ext_getElem hl (fun j h1 h2 => ?_)
  have := h j h1
  rwa [List.getD_eq_getElem?_getD, List.getD_eq_getElem?_getD, List.getElem?_eq_getElem h1, List.getElem?_eq_getElem h2] at this
theorem lcp_take (a b : List Int) : a.take (lcp a b) = b.take (lcp a b) := by
  have hp := lcp_le a b
  refine ext_getD (by rw [List.length_take, List.length_take]; omega) (fun j hj => ?_)
  rw [List.length_take] at hj
  have := scan_yes (pre a b) (min a.length b.length) 0 j (by omega) (show j < lcp a b by omega)
  simp only [pre, beq_iff_eq] at this
  rw [getD_take _ (by omega), getD_take _ (by omega)]
  exact this
theorem lcs_drop' (a b : List Int) (p : Nat) : a.drop (a.length - lcs a b p) = b.drop (b.length - lcs a b p) := by
  have hp := lcs_le a b p
  refine ext_getD (by rw [List.length_drop, List.length_drop]; omega) (fun j hj => ?_)
  rw [List.length_drop] at hj
  have := scan_yes (suf a b) (min (a.length - p) (b.length - p)) 0 (lcs a b p - 1 - j) (by omega) (show lcs a b p - 1 - j < lcs a b p by omega)
  simp only [suf, beq_iff_eq] at this
  rw [getD_drop, getD_drop, show a.length - lcs a b p + j = a.length - 1 - (lcs a b p - 1 - j) by omega, show b.length - lcs a b p + j = b.length - 1 - (lcs a b p - 1 - j) by omega]
  exact this
theorem diff_fit (a b : List Int) : fitS (a.length : Int) (dspec a b) = true := by
  unfold dspec
  have hp := lcp_le a b
  have ht := lcs_le a b (lcp a b)
  split
  · rfl
  · unfold one
    simp only [fitS]
    rw [if_neg (by omega), if_neg (by omega), if_neg (by omega), if_neg (by omega)]
theorem diff_apply (a b : List Int) : applyL a (dspec a b) = b := by
  unfold dspec
  have hp := lcp_le a b
  have ht := lcs_le a b (lcp a b)
  split
  · rename_i h
    exact h
  · unfold one
    simp only [applyL]
    rw [Int.toNat_natCast, lcp_take, show ((lcp a b : Int) + ((a.length - lcp a b - lcs a b (lcp a b) : Nat) : Int)).toNat = a.length - lcs a b (lcp a b) by omega, lcs_drop']
    have e : b.drop (b.length - lcs a b (lcp a b)) = (b.drop (lcp a b)).drop (b.length - lcp a b - lcs a b (lcp a b)) := by rw [List.drop_drop]; congr 1; omega
    rw [e, List.append_assoc, List.take_append_drop, List.take_append_drop]
theorem diff_bytes (a : List Int) {b : List Int} (hb : Bytes b) : ∀ p ∈ dspec a b, Bytes p.f2 := by
  unfold dspec
  split
  · intro p hp; cases hp
  · unfold one
    intro p hp
    rw [List.mem_singleton.1 hp]
    exact bytes_take (bytes_drop hb _) _
theorem diff_wsum (a b : List Int) : wsum (dspec a b) ≤ b.length := by
  rw [dspec_weight]
  split <;> omega
theorem DeltaBack : turnpikelaw21_DeltaBack.Pure := by
  intro a b _ h0 wa _ h1 wb
  have ha := bytes_of_wf wa
  have hb := bytes_of_wf wb
  have key : ∃ k, turnpikelaw21_DeltaBack.j0 k a b true = some true ∧ (a.length ≤ 32768 → b.length ≤ 32768 → turnpikelaw21_DeltaBack.j0 k a b false = some true) := by
    by_cases c : a.length ≤ 32768 ∧ b.length ≤ 32768
    · have hw := diff_wsum a b
      have hl1 : (dspec a b).length ≤ 1 := by rw [dspec_len]; split <;> omega
      have hd := diff_bytes a hb
      have hf := diff_fit a b
      obtain ⟨K1, e1⟩ := diff_ev ha hb (by omega) (by omega)
      obtain ⟨K2, e2⟩ := apply_ev a (dspec a b) (by omega) (by omega)
      obtain ⟨K3, e3⟩ := bytes_ev (l := dspec a b) ha hd (by omega)
      have hel := enc_len a (dspec a b)
      obtain ⟨K4, e4⟩ := parse_ev (b := enc a (dspec a b)) ha (enc_bytes a hd) (by omega) (by omega)
      obtain ⟨K5, e5⟩ := same_ev (dspec a b) (dspec_small a b)
      obtain ⟨K6, e6⟩ := weight_ev (dspec a b) (dspec_small a b) (by omega)
      rw [hf, if_pos rfl, diff_apply] at e2
      rw [hf, if_pos rfl] at e3
      rw [parse_enc ha hd (by omega) hf] at e4
      obtain ⟨K, hK⟩ : ∃ K, K = K1 + K2 + K3 + K4 + K5 + K6 := ⟨_, rfl⟩
      refine ⟨K + 1, by simp only [turnpikelaw21_DeltaBack.j0, if_true], fun _ _ => ?_⟩
      simp only [turnpikelaw21_DeltaBack.j0, Bool.false_eq_true, if_false]
      rw [show delta_Diff.f K a b = _ from e1 K (by omega), Option.bind_some, show delta_Apply.f K a (dspec a b) = _ from e2 K (by omega), Option.bind_some, show delta_Bytes.f K a (dspec a b) = _ from e3 K (by omega), Option.bind_some, show delta_Parse.f K a (enc a (dspec a b)) = _ from e4 K (by omega), Option.bind_some]
      rw [if_pos (by omega)]
      have hne : ((((dspec a b).length : Int) == 0) == ((strOfNums a).toList == (strOfNums b).toList)) = true := by
        rw [dspec_len]
        by_cases e : a = b
        · subst e
          simp
        · have : ((strOfNums a).toList == (strOfNums b).toList) = false := by
            rw [beq_eq_false_iff_ne]
            exact fun h => e ((str_inj ha hb).1 h)
          rw [this, if_neg e]
          rfl
      rw [if_pos hne, if_pos rfl, if_pos rfl, if_pos rfl, if_pos rfl, show turnpikelaw21_Same.f K (dspec a b) (dspec a b) = _ from e5 K (by omega), Option.bind_some, if_pos rfl, show delta_Weight.f K (dspec a b) = _ from e6 K (by omega), Option.bind_some]
      simp only [Option.some.injEq, decide_eq_true_eq]
      omega
    · exact ⟨1, by simp only [turnpikelaw21_DeltaBack.j0, if_true], fun h h' => absurd ⟨h, h'⟩ c⟩
  obtain ⟨k, k1, k2⟩ := key
  refine ⟨k, ?_⟩
  unfold turnpikelaw21_DeltaBack.f turnpikelaw21_known.f
  simp only [Option.bind_some, if_true]
  split
  · exact k1
  · by_cases c : (b.length : Int) > 32768
    · rw [decide_eq_true c]; exact k1
    · rw [decide_eq_false c]; exact k2 (by omega) (by omega)
end Go.Proofs.Ytlfkbkobkibemaa.Pure
