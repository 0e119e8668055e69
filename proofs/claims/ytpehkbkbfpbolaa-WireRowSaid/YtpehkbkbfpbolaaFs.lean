/- Fold and Unfold of texts of two bytes: as those of the numbers that the texts stand for. -/
import Derived.Test.YtpehkbkbfpbolaaFo
import Derived.Test.YtpehkbkbfpbolaaPWx45
import Derived.Test.YtpehkbkbfpbolaaPWx46
set_option linter.unusedSimpArgs false
set_option linter.unusedVariables false
namespace Go.Proofs.Ytpehkbkbfpbolaa.Fs
open Go.RowKit Go.Proofs.Ytpehkbkbfpbolaa.PW Go.Proofs.Ytpehkbkbfpbolaa.Pl Go.Proofs.Ytpehkbkbfpbolaa.Fd Go.Proofs.Ytpehkbkbfpbolaa.Bm Go.Proofs.Ytpehkbkbfpbolaa.Se Go.Proofs.Ytpehkbkbfpbolaa.Uf Go.Proofs.Ytpehkbkbfpbolaa.Ag Go.Proofs.Ytpehkbkbfpbolaa.Fo Go.Proofs.YtpehkbkbfpbolaaW.PrintWords Go.Proofs.YtpehkbkbfpbolaaW.PrintLast Go.Proofs.YtpehkbkbfpbolaaW.PrintMore
def S (v : Int) : ByteArray := strOfNums ([v % 256, (v / 256) % 256] : List Int)
def Two (L : List Int) : Prop := ∀ i, 0 ≤ L.getD i 0 ∧ L.getD i 0 < 65536
theorem S_inj {a b : Int} (ha : 0 ≤ a ∧ a < 65536) (hb : 0 ≤ b ∧ b < 65536) : (S a).toList = (S b).toList ↔ a = b := by
  unfold S
  rw [str_inj (by intro x hx; simp only [List.mem_cons, List.not_mem_nil, or_false] at hx; rcases hx with h | h <;> (rw [h]; omega)) (by intro x hx; simp only [List.mem_cons, List.not_mem_nil, or_false] at hx; rcases hx with h | h <;> (rw [h]; omega))]
  constructor
  · intro h
    simp only [List.cons.injEq, and_true] at h
    omega
  · intro h; rw [h]
theorem rdS (L : List Int) (i : Nat) (h : i < L.length) : rdOf ByteArray.empty (L.map S) (i : Int) = S (L.getD i 0) := by
  unfold rdOf
  rw [Int.toNat_natCast, List.getD_eq_getElem?_getD, List.getElem?_map, List.getD_eq_getElem?_getD, List.getElem?_eq_getElem h]
  rfl
theorem app_S (out : List Int) (x : Int) : out.map S ++ [S x] = (out ++ [x]).map S := by simp
theorem fold_s0 (l : List Int) (h2 : Two l) (hl : l.length ≤ 3000) : ∀ d k i : Nat, ∀ m out : List Int, i + d = l.length → d < k → m.length = (l.length + 31) / 32 → out.length ≤ i →
    wire_Fold_string.l0 k (l.map S) m (out.map S) (l.map S) (l.length : Int) (i : Int) = some ((fo l d i m out).1, (fo l d i m out).2.map S) := by
  intro d
  induction d with
  | zero =>
    intro k i m out hi hk hm ho
    obtain ⟨k, rfl⟩ : ∃ m, k = m + 1 := ⟨k - 1, by omega⟩
    simp only [wire_Fold_string.l0, fo]
    rw [if_neg (by omega)]
  | succ d ih =>
    intro k i m out hi hk hm ho
    obtain ⟨k, rfl⟩ : ∃ m, k = m + 1 := ⟨k - 1, by omega⟩
    have e1 := tmod_nat i 32
    have e2 := tdiv_nat i 32
    rw [show (((32 : Nat) : Int)) = 32 from rfl] at e1 e2
    simp only [wire_Fold_string.l0, fo, List.length_map]
    rw [e1, e2, w64 (x := ((i / 32 : Nat) : Int)) (by omega) (by omega), w64 (x := 31 - ((i % 32 : Nat) : Int)) (by omega) (by omega), w64 (x := (i : Int) + 1) (by omega) (by omega)]
    rw [show (31 - ((i % 32 : Nat) : Int)) = ((31 - i % 32 : Nat) : Int) by omega, show ((i : Int) + 1) = ((i + 1 : Nat) : Int) by omega]
    rw [rd_nat, rdS l i (by omega), app_S, Int.toNat_natCast]
    rw [if_pos (by omega), if_pos (by omega), if_pos (by omega)]
    have step : wire_Fold_string.l0 k (l.map S) (m.set (i / 32) (Go.bits .or .u32 (m.getD (i / 32) 0) (shl .u32 1 ((31 - i % 32 : Nat) : Int)))) ((out ++ [l.getD i 0]).map S) (l.map S) (l.length : Int) ((i + 1 : Nat) : Int)
        = some ((fo l d (i + 1) (setBit m i) (out ++ [l.getD i 0])).1, (fo l d (i + 1) (setBit m i) (out ++ [l.getD i 0])).2.map S) :=
      ih k (i + 1) _ _ (by omega) (by omega) (by rw [← hm]; exact setBit_length m i) (by simp; omega)
    rw [step]
    by_cases c : (i : Int) = 0
    · have c' : i = 0 := by omega
      rw [if_pos c, if_pos (by omega), if_pos (by omega), if_pos (by omega), if_pos (by omega), if_pos (by simp [newRun, c'])]
    · have c' : i ≠ 0 := by omega
      rw [if_neg c, w64 (x := (i : Int) - 1) (by omega) (by omega), show ((i : Int) - 1) = ((i - 1 : Nat) : Int) by omega, rdS l (i - 1) (by omega), if_pos (by omega), if_pos (by omega)]
      by_cases e : l.getD (i - 1) 0 = l.getD i 0
      · rw [if_pos ((S_inj (h2 _) (h2 _)).2 e), if_neg (by simp only [newRun, Bool.or_eq_true, beq_iff_eq, bne_iff_ne]; exact fun h => h.elim c' (fun h => h e))]
        exact ih k (i + 1) _ _ (by omega) (by omega) hm (by omega)
      · rw [if_neg (fun h => e ((S_inj (h2 _) (h2 _)).1 h)), if_pos (by omega), if_pos (by omega), if_pos (by omega), if_pos (by omega), if_pos (by simp only [newRun, Bool.or_eq_true, beq_iff_eq, bne_iff_ne]; exact .inr e)]
theorem fold_s (l : List Int) (h2 : Two l) (hl : l.length ≤ 3000) : Ev (fun k => wire_Fold_string.f k (l.map S)) ((fold l).1, (fold l).2.map S) := by
  refine Ev.of (k := l.length + 1) (wire_Fold_string.mono (l.map S)) ?_
  unfold wire_Fold_string.f fold
  rw [List.length_map, words_nat l.length (by omega)]
  simp only [Option.bind_some, Int.toNat_natCast]
  rw [if_pos (by omega), if_pos (by omega)]
  exact fold_s0 l h2 hl l.length _ 0 _ [] (by omega) (by omega) (by simp) (by simp)
theorem build_s {m l : List Int} (hm : W32 m) (n : Nat) (hml : m.length ≤ 3000) (hn : n ≤ 32 * m.length) (h0 : n = 0 ∨ bit m 0 = true) (hc : cnt m n ≤ l.length) : ∀ d k i : Nat, i + d = n → d < k →
    wire_Unfold_string.l1 k m (l.map S) ((unf m l i).map S) ((cnt m i : Nat) : Int) (n : Int) (i : Int) = some ((unf m l n).map S, 0) := by
  intro d
  induction d with
  | zero =>
    intro k i hi hk
    obtain ⟨k, rfl⟩ : ∃ m, k = m + 1 := ⟨k - 1, by omega⟩
    obtain rfl : i = n := by omega
    simp only [wire_Unfold_string.l1]
    rw [if_neg (by omega)]
  | succ d ih =>
    intro k i hi hk
    obtain ⟨k, rfl⟩ : ∃ m, k = m + 1 := ⟨k - 1, by omega⟩
    have e1 := tmod_nat i 32
    have e2 := tdiv_nat i 32
    rw [show (((32 : Nat) : Int)) = 32 from rfl] at e1 e2
    have hb := bit_word hm i (by omega)
    have hs := cnt_succ m i
    have hle := cnt_le m i
    have hmo := cnt_mono m (show i + 1 ≤ n by omega)
    have hpos : 1 ≤ cnt m (i + 1) := by
      have h1 := cnt_mono m (show 1 ≤ i + 1 by omega)
      have h2 : cnt m 1 = cnt m 0 + (if bit m 0 then 1 else 0) := cnt_succ m 0
      rw [if_pos (h0.resolve_left (by omega))] at h2
      omega
    have hcn := cnt_le m n
    simp only [wire_Unfold_string.l1, List.length_map]
    rw [e1, e2, wn (n := i / 32) (by omega), w64 (x := 31 - ((i % 32 : Nat) : Int)) (by omega) (by omega), w64 (x := (i : Int) + 1) (by omega) (by omega), rd_nat]
    rw [show (31 - ((i % 32 : Nat) : Int)) = ((31 - i % 32 : Nat) : Int) by omega, hb, wn (by split <;> omega)]
    rw [show ((cnt m i : Nat) : Int) + (((if bit m i then 1 else 0) : Nat) : Int) = ((cnt m (i + 1) : Nat) : Int) by rw [hs]; omega]
    rw [wn (n := cnt m (i + 1)) (by omega), w64 (x := ((cnt m (i + 1) : Nat) : Int) - 1) (by omega) (by omega), show ((cnt m (i + 1) : Nat) : Int) - 1 = ((cnt m (i + 1) - 1 : Nat) : Int) by omega, rdS l _ (by omega), app_S]
    rw [if_pos (by omega), if_pos (by omega), if_pos (by omega), if_pos (by omega), if_pos (by omega), if_pos (by omega), if_pos (by rw [unf_length]; omega), ← unf_succ]
    exact ih k (i + 1) (by omega) (by omega)
theorem adj_s {m l : List Int} (h2 : Two l) (n : Nat) (hl : l.length ≤ 96000) (hna : ∀ j, 1 ≤ j → j < l.length → l.getD (j - 1) 0 ≠ l.getD j 0) (B : Nat) (hB : ∀ k, B ≤ k → wire_Unfold_string.l1 k m (l.map S) [] 0 (n : Int) 0 = some ((unf m l n).map S, 0)) (hn : n ≤ 96000) : ∀ d k i : Nat, 1 ≤ i → (i + d = l.length ∨ d = 0 ∧ l.length ≤ i) → d + B < k →
    wire_Unfold_string.l0 k m (n : Int) (l.map S) (i : Int) = some ((unf m l n).map S, 0) := by
  intro d
  induction d with
  | zero =>
    intro k i h1 hi hk
    obtain ⟨k, rfl⟩ : ∃ m, k = m + 1 := ⟨k - 1, by omega⟩
    simp only [wire_Unfold_string.l0, List.length_map]
    rw [if_neg (by omega), if_pos (by omega), if_pos (by omega)]
    exact hB k (by omega)
  | succ d ih =>
    intro k i h1 hi hk
    obtain ⟨k, rfl⟩ : ∃ m, k = m + 1 := ⟨k - 1, by omega⟩
    simp only [wire_Unfold_string.l0, List.length_map]
    rw [if_pos (by omega), w64 (x := (i : Int) - 1) (by omega) (by omega), w64 (x := (i : Int) + 1) (by omega) (by omega), show (i : Int) - 1 = ((i - 1 : Nat) : Int) by omega, rdS l _ (by omega), rdS l _ (by omega), if_pos (by omega), if_pos (by omega), if_pos (by omega)]
    rw [if_neg (fun h => hna i h1 (by omega) ((S_inj (h2 _) (h2 _)).1 h))]
    exact ih k (i + 1) (by omega) (by omega) (by omega)
theorem unfold_s (l : List Int) (h2 : Two l) (hl : l.length ≤ 3000) : Ev (fun k => wire_Unfold_string.f k (fold l).1 (l.length : Int) ((R l l.length).map S)) (l.map S, 0) := by
  have hm := (fold_bits l).1
  have hml := (fold_len l).1
  have hR : (R l l.length).length ≤ l.length := by have := (fold_len l).2; rw [fold_two] at this; exact this
  have h2R : Two (R l l.length) := by
    intro i
    rw [List.getD_eq_getElem?_getD]
    unfold R
    rw [List.getElem?_map]
    cases ((List.range l.length).filter (newRun l))[i]? with
    | none => simp
    | some j => exact h2 j
  have hc := fold_cnt l (Nat.le_refl _)
  obtain ⟨K1, e1⟩ : ∃ K, ∀ k, K ≤ k → wire_Ones.f k (fold l).1 = some ((onesN (fold l).1 : Nat) : Int) := ones_ev hm (by omega)
  have go : ∀ k, l.length + 2 + l.length + 2 < k → wire_Unfold_string.l0 k (fold l).1 (l.length : Int) ((R l l.length).map S) 1 = some (l.map S, 0) := by
    intro k hk
    have := adj_s (m := (fold l).1) h2R l.length (by omega) (R_adj l l.length) (l.length + 1) (fun k hk => build_s hm l.length (by omega) (by omega) (fold_first l) (by omega) l.length k 0 (by omega) (by omega)) (by omega) ((R l l.length).length - 1) k 1 (by omega) (by omega) (by omega)
    rw [fold_back] at this
    exact this
  obtain ⟨K2, s, e2, hs⟩ : ∃ K s, (∀ k, K ≤ k → wire_Select.f k (fold l).1 (wrap64 (((R l l.length).length : Int) - 1)) = some s) ∧ (s.2 = 0 → decide (s.1 ≥ (l.length : Int)) = false) := by
    rw [w64 (by omega) (by omega)]
    rcases Nat.eq_zero_or_pos (R l l.length).length with hz | hz
    · refine ⟨0, (0, 2), fun k _ => ?_, fun h => absurd h (by decide)⟩
      unfold wire_Select.f
      rw [if_pos (by omega)]
    · obtain ⟨p, q1, q2, q3⟩ := place_of (fold l).1 ((R l l.length).length - 1) l.length (by omega)
      obtain ⟨K, hK⟩ : ∃ K, ∀ k, K ≤ k → wire_Select.f k (fold l).1 ((cnt (fold l).1 p : Nat) : Int) = some ((p : Int), 0) := sel_found hm (by omega) p (by omega) q2
      rw [q3, show (((R l l.length).length - 1 : Nat) : Int) = ((R l l.length).length : Int) - 1 by omega] at hK
      exact ⟨K, _, hK, fun _ => decide_eq_false (by omega)⟩
  have next : ∀ k, K2 + l.length + l.length + 8 < k → wire_Unfold_string.j0 k (fold l).1 (l.length : Int) ((R l l.length).map S) false = some (l.map S, 0) := by
    intro k hk
    obtain ⟨k, rfl⟩ : ∃ m, k = m + 2 := ⟨k - 2, by omega⟩
    have j1 : wire_Unfold_string.j1 (k + 1) (fold l).1 (l.length : Int) ((R l l.length).map S) false = some (l.map S, 0) := by
      simp only [wire_Unfold_string.j1, Bool.false_eq_true, if_false]
      exact go k (by omega)
    simp only [wire_Unfold_string.j0, Bool.false_eq_true, if_false, List.length_map]
    rw [e2 (k + 1) (by omega), Option.bind_some]
    by_cases c : s.2 = 0
    · rw [if_pos c, hs c]; exact j1
    · rw [if_neg c]; exact j1
  refine Ev.of (k := K1 + K2 + l.length + l.length + 9) (wire_Unfold_string.mono _ _ _) ?_
  unfold wire_Unfold_string.f
  rw [if_neg (by omega), words_all l.length (by omega), Option.bind_some, List.length_map, if_pos (by omega), e1 _ (by omega), Option.bind_some, if_pos (by rw [fold_ones])]
  by_cases c : (l.length : Int) > 0
  · rw [if_pos c, if_pos (by omega), top_bit hm (by omega), (fold_first l).resolve_left (by omega)]
    exact next _ (by omega)
  · rw [if_neg c]
    exact next _ (by omega)
end Go.Proofs.Ytpehkbkbfpbolaa.Fs
