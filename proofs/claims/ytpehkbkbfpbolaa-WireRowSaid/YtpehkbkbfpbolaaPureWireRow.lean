/- A row, folded, is the row when it is unfolded; of texts, too. -/
import Derived.Test.YtpehkbkbfpbolaaFs
import Derived.Test.YtpehkbkbfpbolaaPWx47
set_option linter.unusedSimpArgs false
set_option linter.unusedVariables false
namespace Go.Proofs.Ytpehkbkbfpbolaa.Pure
open Go.RowKit Go.Proofs.Ytpehkbkbfpbolaa.PW Go.Proofs.Ytpehkbkbfpbolaa.Pl Go.Proofs.Ytpehkbkbfpbolaa.Fd Go.Proofs.Ytpehkbkbfpbolaa.Bm Go.Proofs.Ytpehkbkbfpbolaa.Se Go.Proofs.Ytpehkbkbfpbolaa.Uf Go.Proofs.Ytpehkbkbfpbolaa.Ag Go.Proofs.Ytpehkbkbfpbolaa.Fo Go.Proofs.Ytpehkbkbfpbolaa.Fs Go.Proofs.YtpehkbkbfpbolaaW.PrintWords Go.Proofs.YtpehkbkbfpbolaaW.PrintLast Go.Proofs.YtpehkbkbfpbolaaW.PrintMore
def low (l : List Int) : List Int := l.map (· % 65536)
theorem low_length (l : List Int) : (low l).length = l.length := by simp [low]
theorem low_get (l : List Int) (i : Nat) : (low l).getD i 0 = l.getD i 0 % 65536 := by
  unfold low
  rw [List.getD_eq_getElem?_getD, List.getD_eq_getElem?_getD, List.getElem?_map]
  cases l[i]? with
  | none => simp
  | some x => rfl
theorem low_two (l : List Int) : Two (low l) := fun i => by rw [low_get]; omega
theorem S_low (v : Int) : strOfNums (([v % 256, (v / 256) % 256] : List Int)) = S (v % 65536) := by
  unfold S
  rw [show v % 65536 % 256 = v % 256 by omega, show v % 65536 / 256 % 256 = v / 256 % 256 by omega]
theorem row_l2 (L : List Int) (hl : L.length ≤ 3000) : ∀ d i : Nat, i + d = L.length → ∃ K, ∀ k, K ≤ k → turnpikelaw13_WireRow.l2 k (L.map S) (fold L).1 ((R L L.length).map S) (L.map S) (i : Int) = some true := by
  have hm := (fold_bits L).1
  have hml := (fold_len L).1
  intro d
  induction d with
  | zero =>
    intro i hi
    refine ⟨1, fun k hk => ?_⟩
    obtain ⟨k, rfl⟩ : ∃ q, k = q + 1 := ⟨k - 1, by omega⟩
    rw [turnpikelaw13_WireRow.l2, List.length_map, if_neg (by omega)]
  | succ d ih =>
    intro i hi
    obtain ⟨K0, e0⟩ := ih (i + 1) (by omega)
    obtain ⟨K1, e1⟩ : ∃ K, ∀ k, K ≤ k → wire_Rank.f k (fold L).1 (i : Int) = some (rankS (fold L).1 (i : Int)) := rank_ev hm (by omega) i (by omega) (by omega)
    have er : rankS (fold L).1 (i : Int) = (((cnt (fold L).1 (i + 1) : Nat) : Int), 0) := by
      unfold rankS; rw [if_neg (by omega), Int.toNat_natCast]
    rw [er] at e1
    have hc := fold_cnt L (show i + 1 ≤ L.length by omega)
    obtain ⟨h3, _⟩ := last_get (R_last L i)
    obtain ⟨t, ht⟩ := R_pre L (i + 1) (L.length - (i + 1))
    rw [show i + 1 + (L.length - (i + 1)) = L.length by omega] at ht
    have hlen : (R L (i + 1)).length ≤ (R L L.length).length := by rw [ht, List.length_append]; omega
    have hcl := cnt_le (fold L).1 (i + 1)
    refine ⟨max K0 K1 + 1, fun k hk => ?_⟩
    obtain ⟨k, rfl⟩ : ∃ q, k = q + 1 := ⟨k - 1, by omega⟩
    rw [turnpikelaw13_WireRow.l2]
    simp only [List.length_map]
    rw [if_pos (by omega), e1 k (by omega), Option.bind_some, if_pos (by omega), if_pos (by omega), if_pos rfl, if_pos trivial]
    simp only []
    rw [hc, w64 (x := (((R L (i + 1)).length : Nat) : Int) - 1) (by omega) (by omega), show (((R L (i + 1)).length : Nat) : Int) - 1 = (((R L (i + 1)).length - 1 : Nat) : Int) by omega, if_pos (by omega), if_pos (by omega), rdS _ _ (by omega), rdS _ _ (by omega), R_get L _ _ (by omega), if_pos rfl, w64 (x := (i : Int) + 1) (by omega) (by omega)]
    exact_mod_cast e0 k (by omega)
theorem row_l1 (l : List Int) (hl : l.length ≤ 3000) : ∀ d i : Nat, i + d = l.length → ∃ K, ∀ k, K ≤ k → turnpikelaw13_WireRow.l1 k l (((low l).take i).map S) (i : Int) = some true := by
  intro d
  induction d with
  | zero =>
    intro i hi
    have hL := low_length l
    obtain ⟨K1, e1⟩ : ∃ K, ∀ k, K ≤ k → wire_Fold_string.f k ((low l).map S) = some ((fold (low l)).1, (fold (low l)).2.map S) := fold_s (low l) (low_two l) (by omega)
    obtain ⟨K2, e2⟩ : ∃ K, ∀ k, K ≤ k → wire_Unfold_string.f k (fold (low l)).1 ((low l).length : Int) ((R (low l) (low l).length).map S) = some ((low l).map S, 0) := unfold_s (low l) (low_two l) (by omega)
    obtain ⟨K3, e3⟩ := row_l2 (low l) (by omega) (low l).length 0 (by omega)
    refine ⟨max (max K1 K2) K3 + 2, fun k hk => ?_⟩
    obtain ⟨k, rfl⟩ : ∃ q, k = q + 2 := ⟨k - 2, by omega⟩
    rw [List.take_of_length_le (by omega), turnpikelaw13_WireRow.l1, if_neg (by omega), e1 (k + 1) (by omega), Option.bind_some]
    simp only [List.length_map, fold_two]
    rw [e2 (k + 1) (by omega), Option.bind_some]
    rw [if_pos rfl, turnpikelaw13_WireRow.j3, List.length_map, if_neg (by simp)]
    exact e3 k (by omega)
  | succ d ih =>
    intro i hi
    have hL := low_length l
    obtain ⟨K0, e0⟩ := ih (i + 1) (by omega)
    refine ⟨K0 + 1, fun k hk => ?_⟩
    obtain ⟨k, rfl⟩ : ∃ q, k = q + 1 := ⟨k - 1, by omega⟩
    rw [turnpikelaw13_WireRow.l1, if_pos (by omega), if_pos (by omega), if_pos (by rw [List.length_map, List.length_take]; omega), w64 (x := (i : Int) + 1) (by omega) (by omega), S_low, rd_nat, ← low_get, app_S]
    have := e0 k (by omega)
    rw [List.take_succ_eq_append_getElem (show i < (low l).length by omega)] at this
    rw [List.getD_eq_getElem?_getD, List.getElem?_eq_getElem (show i < (low l).length by omega), Option.getD_some]
    exact_mod_cast this
theorem row_l0 (l : List Int) (hl : l.length ≤ 3000) (K : Nat) (hK : ∀ k, K ≤ k → turnpikelaw13_WireRow.l1 k l [] 0 = some true) : ∀ d k i : Nat, 1 ≤ i → (i + d = (R l l.length).length ∨ d = 0 ∧ (R l l.length).length ≤ i) → d + K < k → turnpikelaw13_WireRow.l0 k l (R l l.length) (i : Int) = some true := by
  have hR : (R l l.length).length ≤ l.length := by have := (fold_len l).2; rw [fold_two] at this; exact this
  intro d
  induction d with
  | zero =>
    intro k i h1 hi hk
    obtain ⟨k, rfl⟩ : ∃ q, k = q + 1 := ⟨k - 1, by omega⟩
    rw [turnpikelaw13_WireRow.l0, if_neg (by omega)]
    exact hK k (by omega)
  | succ d ih =>
    intro k i h1 hi hk
    obtain ⟨k, rfl⟩ : ∃ q, k = q + 1 := ⟨k - 1, by omega⟩
    have ha := R_adj l l.length i h1 (by omega)
    rw [turnpikelaw13_WireRow.l0, if_pos (by omega), w64 (x := (i : Int) - 1) (by omega) (by omega), w64 (x := (i : Int) + 1) (by omega) (by omega), show (i : Int) - 1 = ((i - 1 : Nat) : Int) by omega, if_pos (by omega), if_pos (by omega), if_pos (by omega), rd_nat, rd_nat, if_neg (fun h => ha h.symm)]
    have := ih k (i + 1) (by omega) (by omega) (by omega)
    exact_mod_cast this
theorem WireRow : turnpikelaw13_WireRow.Pure := by
  intro l _ h0 wl
  by_cases c : (l.length : Int) > 3000
  · refine ⟨1, ?_⟩
    unfold turnpikelaw13_WireRow.f turnpikelaw13_known.f
    rw [Option.bind_some, if_pos rfl, if_pos c]
  · have hl : l.length ≤ 3000 := by omega
    have hm := (fold_bits l).1
    have hml := (fold_len l).1
    have hR : (R l l.length).length ≤ l.length := by have := (fold_len l).2; rw [fold_two] at this; exact this
    obtain ⟨K1, e1⟩ : ∃ K, ∀ k, K ≤ k → wire_Fold_int.f k l = some (fold l) := fold_ev l (by omega)
    obtain ⟨K2, e2⟩ : ∃ K, ∀ k, K ≤ k → wire_Unfold_int.f k (fold l).1 (l.length : Int) (R l l.length) = some (unfS (fold l).1 (R l l.length) (l.length : Int)) := unfold_ev hm (by omega) (by omega) (l.length : Int) (by omega)
    have eu : unfS (fold l).1 (R l l.length) (l.length : Int) = (l, 0) := by
      unfold unfS
      rw [if_neg (by omega), Int.toNat_natCast, fold_good, if_pos rfl, fold_back]
    rw [eu] at e2
    obtain ⟨K3, e3⟩ : ∃ K, ∀ k, K ≤ k → turnpikelaw13_sameInts.f k l l = some true := sameInts_ev l (by omega)
    obtain ⟨K4, e4⟩ : ∃ K, ∀ k, K ≤ k → wire_Ones.f k (fold l).1 = some ((onesN (fold l).1 : Nat) : Int) := ones_ev hm (by omega)
    obtain ⟨K5, e5⟩ := row_l1 l hl l.length 0 (by omega)
    have e6 := row_l0 l hl K5 e5 ((R l l.length).length - 1)
    refine ⟨max (max K1 K2) (max K3 K4) + K5 + l.length + 9, ?_⟩
    have e2' := tdiv_nat (l.length + 31) 32
    rw [show (((32 : Nat) : Int)) = 32 from rfl] at e2'
    unfold turnpikelaw13_WireRow.f turnpikelaw13_known.f
    rw [Option.bind_some, if_pos rfl, if_neg c, e1 _ (by omega), Option.bind_some, fold_two, e2 _ (by omega), Option.bind_some, if_pos rfl, e3 _ (by omega), Option.bind_some, if_pos rfl]
    rw [w64 (x := (l.length : Int) + 31) (by omega) (by omega), show ((l.length : Int) + 31) = ((l.length + 31 : Nat) : Int) by omega, e2', w64 (by omega) (by omega), if_pos (by omega), e4 _ (by omega), Option.bind_some, fold_ones]
    rw [turnpikelaw13_WireRow.j0, if_neg (by simp)]
    exact e6 _ 1 (by omega) (by omega) (by omega)
end Go.Proofs.Ytpehkbkbfpbolaa.Pure
