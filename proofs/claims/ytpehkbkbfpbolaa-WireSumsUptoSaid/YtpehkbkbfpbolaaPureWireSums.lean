/- The sum of rows one behind the other is the document's sum of all their bytes; what was lent is as it was. The bound is the bulk's. -/
import Derived.Test.YtpehkbkbfpbolaaDs
import Derived.Test.YtpehkbkbfpbolaaWSums
set_option linter.unusedSimpArgs false
set_option linter.unusedVariables false
namespace Go.Proofs.Ytpehkbkbfpbolaa.Pure
open Go.RowKit Go.Proofs.Ytpehkbkbfpbolaa.PZ Go.Proofs.Ytpehkbkbfpbolaa.Pl Go.Proofs.Ytpehkbkbfpbolaa.Cr Go.Proofs.Ytpehkbkbfpbolaa.Ds Go.Proofs.YtpehkbkbfpbolaaW.PrintWords Go.Proofs.YtpehkbkbfpbolaaW.PrintLast
theorem rd_app_lt (a b : List Int) {i : Nat} (h : i < a.length) : rd (a ++ b) (i : Int) = rd a (i : Int) := by
  simp [rd, List.getD_eq_getElem?_getD, List.getElem?_append_left h]
theorem rd_app_ge (a : List Int) {i : Nat} (h : a.length ≤ i) (h2 : i < a.length + 9) : rd (a ++ List.replicate 9 165) (i : Int) = 165 := by
  simp only [rd, Int.toNat_natCast, List.getD_eq_getElem?_getD]
  rw [List.getElem?_append_right h, List.getElem?_replicate, if_pos (by omega)]
  rfl
theorem kept_l0 (l : List Int) (hl : l.length ≤ 1000000000) : ∀ (d k i : Nat), i + d = l.length + 9 → d < k → turnpikelaw13_kept.l0 k l (l ++ List.replicate 9 165) (i : Int) = some true
  | 0, k, i, hi, hk => by
    obtain ⟨k, rfl⟩ : ∃ m, k = m + 1 := ⟨k - 1, by omega⟩
    simp only [turnpikelaw13_kept.l0]
    rw [if_neg (by rw [List.length_append, List.length_replicate]; omega)]
  | d + 1, k, i, hi, hk => by
    obtain ⟨k, rfl⟩ : ∃ m, k = m + 1 := ⟨k - 1, by omega⟩
    simp only [turnpikelaw13_kept.l0]
    have ih := kept_l0 l hl d k (i + 1) (by omega) (by omega)
    rw [if_pos (by rw [List.length_append, List.length_replicate]; omega), w64 (by omega) (by omega), show (i : Int) + 1 = ((i + 1 : Nat) : Int) by omega, ih]
    by_cases c : i < l.length
    · rw [if_pos (by omega), if_pos (by omega), rd_app_lt _ _ c, if_pos rfl, if_neg (by omega)]
    · rw [if_neg (by omega), if_pos (by omega), if_pos (by omega), rd_app_ge l (by omega) (by omega), if_pos rfl]
theorem kept_some (l : List Int) (hl : l.length ≤ 1000000000) (k : Nat) (hk : l.length + 9 < k) : turnpikelaw13_kept.f k (l ++ List.replicate 9 165) l = some true := by
  unfold turnpikelaw13_kept.f
  have hlen : (l ++ List.replicate 9 165).length = l.length + 9 := by rw [List.length_append, List.length_replicate]
  rw [w64 (by omega) (by omega), if_pos (by omega), if_pos (by rw [hlen]; omega), show ((l.length : Int) + 9).toNat = l.length + 9 by omega, List.take_of_length_le (by rw [hlen]; exact Nat.le_refl _)]
  exact kept_l0 l hl (l.length + 9) k 0 (by omega) hk
theorem rowsI : ∀ (ls : List (List Int)) (c : V), (∀ l ∈ ls, Bytes l) → ls.foldl sm_rowc (toI c) = toI (row c ls.flatten)
  | [], c, _ => rfl
  | l :: ls, c, h => by
    rw [List.foldl_cons, rowI l c (h l (by simp)), rowsI ls _ (fun x hx => h x (by simp [hx])), List.flatten_cons, row_append]
theorem sumsI {ls : List (List Int)} (h : ∀ l ∈ ls, Bytes l) : sm_sumf ls = toI (crc ls.flatten) := by
  unfold sm_sumf crc
  rw [litF, rowsI ls F h, xorI]
theorem flat_bytes {ls : List (List Int)} (h : ∀ l ∈ ls, Bytes l) : Bytes ls.flatten := by
  intro x hx
  obtain ⟨l, hl, hxl⟩ := List.mem_flatten.1 hx
  exact h l hl x hxl
theorem rd_row (ls : List (List Int)) {i : Nat} (h : i < ls.length) : rd_L1 ls (i : Int) = ls[i] := by simp [rd_L1, List.getD_eq_getElem?_getD, List.getElem?_eq_getElem h]
theorem row_le (ls : List (List Int)) (i : Nat) (h : i < ls.length) : (ls.take i).flatten.length + ls[i].length ≤ ls.flatten.length := by
  have e : ls = ls.take i ++ (ls[i] :: ls.drop (i + 1)) := by rw [List.getElem_cons_drop, List.take_append_drop]
  have : ls.flatten.length = (ls.take i ++ (ls[i] :: ls.drop (i + 1))).flatten.length := congrArg (fun z => z.flatten.length) e
  rw [this, List.flatten_append, List.flatten_cons, List.length_append, List.length_append]
  omega
theorem sums_l1 (ls : List (List Int)) (x3 : List Int) (t : Int) (hb : ls.flatten.length ≤ 1000000000) (hn : ls.length ≤ 1000000000) (K : Nat) (hs : ∀ k, K ≤ k → turnpikeref13_Sum.f k x3 = some t) : ∀ (d k i : Nat), i + d = ls.length → d + K + ls.flatten.length + 10 < k → turnpikelaw13_WireSums.l1 k ls x3 ls t (i : Int) = some true
  | 0, k, i, hi, hk => by
    obtain ⟨k, rfl⟩ : ∃ m, k = m + 1 := ⟨k - 1, by omega⟩
    simp only [turnpikelaw13_WireSums.l1]
    rw [if_neg (by omega), hs k (by omega), Option.bind_some]
    simp
  | d + 1, k, i, hi, hk => by
    obtain ⟨k, rfl⟩ : ∃ m, k = m + 1 := ⟨k - 1, by omega⟩
    simp only [turnpikelaw13_WireSums.l1]
    have hr := row_le ls i (by omega)
    rw [if_pos (by omega), if_pos (by omega), if_pos (by omega), rd_row ls (by omega), kept_some _ (by omega) k (by omega), Option.bind_some, if_pos rfl, w64 (by omega) (by omega), show (i : Int) + 1 = ((i + 1 : Nat) : Int) by omega]
    exact sums_l1 ls x3 t hb hn K hs d k (i + 1) (by omega) (by omega)
theorem sums_l0 (ls : List (List Int)) (h : ∀ l ∈ ls, Bytes l) (hb : ls.flatten.length ≤ 1048576) (hn : ls.length ≤ 1048576) (K : Nat) (hs : ∀ k, K ≤ k → turnpikeref13_Sum.f k ls.flatten = some (toI (crc ls.flatten))) : ∀ (d k i : Nat), i + d = ls.length → d + ls.length + K + ls.flatten.length + 20 < k → turnpikelaw13_WireSums.l0 k ls (ls.take i).flatten (ls.take i) (i : Int) = some true
  | 0, k, i, hi, hk => by
    obtain ⟨k, rfl⟩ : ∃ m, k = m + 1 := ⟨k - 1, by omega⟩
    simp only [turnpikelaw13_WireSums.l0]
    rw [if_neg (by omega), List.take_of_length_le (by omega), show wire_Sum.f ls = some (sm_sumf ls) from rfl, Option.bind_some, sumsI h]
    exact sums_l1 ls ls.flatten _ (by omega) (by omega) K hs ls.length k 0 (by omega) (by omega)
  | d + 1, k, i, hi, hk => by
    obtain ⟨k, rfl⟩ : ∃ m, k = m + 1 := ⟨k - 1, by omega⟩
    simp only [turnpikelaw13_WireSums.l0]
    have hr := row_le ls i (by omega)
    have ht : (ls.take i).length = i := by rw [List.length_take]; omega
    rw [if_pos (by omega), if_pos (by omega), rd_row ls (by omega), if_pos (by omega), Option.bind_some]
    rw [show turnpikelaw13_lend.f ls[i] = some ls[i] by unfold turnpikelaw13_lend.f; rw [if_pos (by omega)], Option.bind_some, ht, if_pos (by omega), w64 (by omega) (by omega), show (i : Int) + 1 = ((i + 1 : Nat) : Int) by omega]
    have e1 : ls.take i ++ [ls[i]] = ls.take (i + 1) := (List.take_succ_eq_append_getElem (by omega)).symm
    have e2 : (ls.take i).flatten ++ ls[i] = (ls.take (i + 1)).flatten := by rw [← e1, List.flatten_append]; simp
    rw [e1, e2, sums_l0 ls h hb hn K hs d k (i + 1) (by omega) (by omega)]
    split <;> rfl
theorem WireSums (ls : List (List Int)) (h : ∀ l ∈ ls, Bytes l) (hb : ls.flatten.length ≤ 1048576) (hn : ls.length ≤ 1048576) : ∃ k, turnpikelaw13_WireSums.f k ls = some true := by
  obtain ⟨K, hs⟩ := sum_ev (flat_bytes h) (by omega)
  refine ⟨2 * ls.length + K + ls.flatten.length + 40, ?_⟩
  unfold turnpikelaw13_WireSums.f turnpikelaw13_known.f
  simp only [Option.bind_some, if_true]
  exact sums_l0 ls h hb hn K hs ls.length _ 0 (by omega) (by omega)
end Go.Proofs.Ytpehkbkbfpbolaa.Pure
