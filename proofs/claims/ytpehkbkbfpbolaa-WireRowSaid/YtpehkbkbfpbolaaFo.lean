/- What Fold tells of a row: the first element of each run; the bitmap marks them; Unfold gives the row back. -/
import Derived.Test.YtpehkbkbfpbolaaAg
set_option linter.unusedSimpArgs false
set_option linter.unusedVariables false
namespace Go.Proofs.Ytpehkbkbfpbolaa.Fo
open Go.RowKit Go.Proofs.Ytpehkbkbfpbolaa.PW Go.Proofs.Ytpehkbkbfpbolaa.Pl Go.Proofs.Ytpehkbkbfpbolaa.Fd Go.Proofs.Ytpehkbkbfpbolaa.Bm Go.Proofs.Ytpehkbkbfpbolaa.Se Go.Proofs.Ytpehkbkbfpbolaa.Uf Go.Proofs.Ytpehkbkbfpbolaa.Ag Go.Proofs.YtpehkbkbfpbolaaW.PrintWords Go.Proofs.YtpehkbkbfpbolaaW.PrintLast Go.Proofs.YtpehkbkbfpbolaaW.PrintMore
def R (l : List Int) (i : Nat) : List Int := ((List.range i).filter (newRun l)).map fun j => l.getD j 0
theorem R_succ (l : List Int) (i : Nat) : R l (i + 1) = R l i ++ (if newRun l i = true then [l.getD i 0] else []) := by
  unfold R
  rw [List.range_succ, List.filter_append, List.map_append]
  by_cases h : newRun l i = true
  · rw [if_pos h]; simp [h]
  · rw [if_neg h]; simp [h]
theorem R_yes {l : List Int} {i : Nat} (h : newRun l i = true) : R l (i + 1) = R l i ++ [l.getD i 0] := by rw [R_succ, if_pos h]
theorem R_no {l : List Int} {i : Nat} (h : ¬ newRun l i = true) : R l (i + 1) = R l i := by rw [R_succ, if_neg h, List.append_nil]
theorem fo_R (l : List Int) : ∀ d i m, (fo l d i m (R l i)).2 = R l (i + d) := by
  intro d
  induction d with
  | zero => intro i m; rfl
  | succ d ih =>
    intro i m
    unfold fo
    split
    · rename_i h
      have := ih (i + 1) (setBit m i)
      rw [R_yes h] at this
      rw [this, show i + 1 + d = i + (d + 1) by omega]
    · rename_i h
      have := ih (i + 1) m
      rw [R_no h] at this
      rw [this, show i + 1 + d = i + (d + 1) by omega]
theorem same_of_no {l : List Int} {i : Nat} (h : ¬ newRun l (i + 1) = true) : l.getD i 0 = l.getD (i + 1) 0 := by
  have h' : newRun l (i + 1) = false := by simpa using h
  unfold newRun at h'
  rw [Bool.or_eq_false_iff] at h'
  have := h'.2
  rw [bne_eq_false_iff_eq] at this
  exact this
theorem R_last (l : List Int) : ∀ i, (R l (i + 1)).getLast? = some (l.getD i 0) := by
  intro i
  induction i with
  | zero =>
    rw [R_yes (show newRun l 0 = true from rfl)]
    simp
  | succ i ih =>
    by_cases h : newRun l (i + 1) = true
    · rw [R_yes h]; simp
    · rw [R_no h, ih, same_of_no h]
theorem R_pre (l : List Int) (i : Nat) : ∀ d, ∃ t, R l (i + d) = R l i ++ t := by
  intro d
  induction d with
  | zero => exact ⟨[], by simp⟩
  | succ d ih =>
    obtain ⟨t, ht⟩ := ih
    refine ⟨t ++ (if newRun l (i + d) = true then [l.getD (i + d) 0] else []), ?_⟩
    rw [show i + (d + 1) = (i + d) + 1 by omega, R_succ, ht, List.append_assoc]
theorem last_get {a : List Int} {x : Int} (h : a.getLast? = some x) : 0 < a.length ∧ a[a.length - 1]? = some x := by
  refine ⟨?_, by rw [← List.getLast?_eq_getElem?]; exact h⟩
  cases a with
  | nil => simp at h
  | cons _ _ => simp
theorem R_get (l : List Int) (n i : Nat) (h : i < n) : (R l n).getD ((R l (i + 1)).length - 1) 0 = l.getD i 0 := by
  obtain ⟨t, ht⟩ := R_pre l (i + 1) (n - (i + 1))
  rw [show i + 1 + (n - (i + 1)) = n by omega] at ht
  obtain ⟨h0, h1⟩ := last_get (R_last l i)
  rw [ht, List.getD_eq_getElem?_getD, List.getElem?_append_left (by omega), h1, Option.getD_some]
theorem get_left (a t : List Int) (j : Nat) (h : j < a.length) : (a ++ t).getD j 0 = a.getD j 0 := by
  rw [List.getD_eq_getElem?_getD, List.getElem?_append_left h, ← List.getD_eq_getElem?_getD]
theorem get_end (a : List Int) (x : Int) : (a ++ [x]).getD a.length 0 = x := by
  rw [List.getD_eq_getElem?_getD, List.getElem?_append_right (by omega), Nat.sub_self]; rfl
theorem R_adj (l : List Int) : ∀ n j, 1 ≤ j → j < (R l n).length → (R l n).getD (j - 1) 0 ≠ (R l n).getD j 0 := by
  intro n
  induction n with
  | zero => intro j _ h; simp [R] at h
  | succ n ih =>
    intro j h1 h2
    by_cases h : newRun l n = true
    · rw [R_yes h] at h2 ⊢
      rw [List.length_append, List.length_singleton] at h2
      rcases Nat.lt_or_ge j (R l n).length with c | c
      · rw [get_left _ _ _ (show j - 1 < _ by omega), get_left _ _ _ c]
        exact ih j h1 c
      · have e : j = (R l n).length := by omega
        obtain ⟨q, rfl⟩ : ∃ q, n = q + 1 := by
          cases n with
          | zero => simp [R] at e; omega
          | succ q => exact ⟨q, rfl⟩
        obtain ⟨h3, h4⟩ := last_get (R_last l q)
        rw [e, get_left _ _ _ (show (R l (q + 1)).length - 1 < _ by omega), get_end, List.getD_eq_getElem?_getD, h4, Option.getD_some]
        unfold newRun at h
        rw [show (q + 1 == 0) = false from rfl, Bool.false_or, bne_iff_ne] at h
        exact h
    · rw [R_no h] at h2 ⊢
      exact ih j h1 h2
theorem noAdj_of {l : List Int} : ∀ d i, (∀ j, i ≤ j → j < i + d → l.getD (j - 1) 0 ≠ l.getD j 0) → noAdj l d i = true := by
  intro d
  induction d with
  | zero => intro i _; rfl
  | succ d ih =>
    intro i h
    rw [noAdj, if_neg (h i (by omega) (by omega))]
    exact ih (i + 1) fun j h1 h2 => h j (by omega) (by omega)
theorem cnt_R {m l : List Int} {n : Nat} (hb : ∀ j, j < n → bit m j = newRun l j) {i : Nat} (h : i ≤ n) : cnt m i = (R l i).length := by
  unfold cnt R
  rw [List.length_map]
  congr 1
  exact List.filter_congr fun j hj => hb j (by have := List.mem_range.1 hj; omega)
theorem cnt_rest {m : List Int} {n : Nat} (hb : ∀ j, n ≤ j → bit m j = false) : ∀ q, cnt m (n + q) = cnt m n := by
  intro q
  induction q with
  | zero => rfl
  | succ q ih =>
    have := cnt_succ m (n + q)
    rw [hb (n + q) (by omega), if_neg (by decide)] at this
    rw [show n + (q + 1) = n + q + 1 by omega, this, ih, Nat.add_zero]
theorem fold_two (l : List Int) : (fold l).2 = R l l.length := by
  unfold fold
  have := fo_R l l.length 0 (List.replicate ((l.length + 31) / 32) 0)
  rw [Nat.zero_add] at this
  exact this
theorem fold_bits (l : List Int) : W32 (fold l).1 ∧ (∀ j, j < l.length → bit (fold l).1 j = newRun l j) ∧ ∀ j, l.length ≤ j → bit (fold l).1 j = false := by
  unfold fold
  obtain ⟨h1, h2⟩ := fo_bits l l.length 0 (List.replicate ((l.length + 31) / 32) 0) [] (w32_zeros _) (by rw [List.length_replicate]; omega)
  refine ⟨h1, fun j hj => ?_, fun j hj => ?_⟩
  · rw [h2, bit_zeros, decide_eq_true (show 0 ≤ j ∧ j < 0 + l.length by omega)]; rfl
  · rw [h2, bit_zeros, decide_eq_false (show ¬ (0 ≤ j ∧ j < 0 + l.length) by omega)]; rfl
theorem fold_cnt (l : List Int) {i : Nat} (h : i ≤ l.length) : cnt (fold l).1 i = (R l i).length := cnt_R (fold_bits l).2.1 h
theorem fold_ones (l : List Int) : onesN (fold l).1 = (R l l.length).length := by
  have h := (fold_len l).1
  rw [← cnt_all, h, ← fold_cnt l (Nat.le_refl _), show 32 * ((l.length + 31) / 32) = l.length + (32 * ((l.length + 31) / 32) - l.length) by omega]
  exact cnt_rest (fold_bits l).2.2 _
theorem fold_adj (l : List Int) : noAdj (R l l.length) ((R l l.length).length - 1) 1 = true := noAdj_of _ _ fun j h1 h2 => R_adj l l.length j h1 (by omega)
theorem fold_first (l : List Int) : l.length = 0 ∨ bit (fold l).1 0 = true := by
  rcases Nat.eq_zero_or_pos l.length with h | h
  · exact .inl h
  · exact .inr (by rw [(fold_bits l).2.1 0 h]; rfl)
theorem fold_good (l : List Int) : goodU (fold l).1 (R l l.length) l.length = true := by
  unfold goodU
  rw [decide_eq_true (fold_len l).1, decide_eq_true (fold_ones l), decide_eq_true (fold_first l), decide_eq_true (show cnt (fold l).1 l.length = onesN (fold l).1 by rw [fold_ones, fold_cnt l (Nat.le_refl _)]), fold_adj]
  rfl
theorem fold_back (l : List Int) : unf (fold l).1 (R l l.length) l.length = l := by
  apply List.ext_getElem (unf_length _ _ _)
  intro q h1 h2
  have e : ∀ (r : List Int) (hq : q < r.length), r[q] = r.getD q 0 := fun r hq => by rw [List.getD_eq_getElem?_getD, List.getElem?_eq_getElem hq]; rfl
  rw [e _ h1, e _ h2, unf_get _ _ _ _ h2, fold_cnt l (show q + 1 ≤ l.length by omega), R_get l _ _ h2]
end Go.Proofs.Ytpehkbkbfpbolaa.Fo
