/- What wire.Fold of numbers, the document's Fold, and the comparisons of rows come to. -/
import Derived.Test.YtpehkbkbfpbolaaPl
import Derived.Test.YtpehkbkbfpbolaaPOx4
import Derived.Test.YtpehkbkbfpbolaaPOx6
import Derived.Test.YtpehkbkbfpbolaaPOx7
set_option linter.unusedSimpArgs false
set_option linter.unusedVariables false
namespace Go.Proofs.Ytpehkbkbfpbolaa.FdO
open Go.RowKit Go.Proofs.Ytpehkbkbfpbolaa.PO Go.Proofs.Ytpehkbkbfpbolaa.Pl Go.Proofs.YtpehkbkbfpbolaaW.PrintWords Go.Proofs.YtpehkbkbfpbolaaW.PrintLast Go.Proofs.YtpehkbkbfpbolaaW.PrintMore
theorem rd_nat (l : List Int) (n : Nat) : rd l (n : Int) = l.getD n 0 := by simp [rd]
theorem tdiv_nat (a b : Nat) : Int.tdiv (a : Int) (b : Int) = ((a / b : Nat) : Int) := by
  rw [Int.tdiv_eq_ediv_of_nonneg (by omega)]; omega
theorem tmod_nat (a b : Nat) : Int.tmod (a : Int) (b : Int) = ((a % b : Nat) : Int) := by
  rw [Int.tmod_eq_emod_of_nonneg (by omega)]; omega
/-- Does a run begin at place i? -/
def newRun (l : List Int) (i : Nat) : Bool := i == 0 || l.getD (i - 1) 0 != l.getD i 0
def setBit (m : List Int) (i : Nat) : List Int := m.set (i / 32) (Go.bits .or .u32 (m.getD (i / 32) 0) (shl .u32 1 ((31 - i % 32 : Nat) : Int)))
def fo (l : List Int) : Nat → Nat → List Int → List Int → List Int × List Int
  | 0, _, m, out => (m, out)
  | d + 1, i, m, out => if newRun l i then fo l d (i + 1) (setBit m i) (out ++ [l.getD i 0]) else fo l d (i + 1) m out
def fold (l : List Int) : List Int × List Int := fo l l.length 0 (List.replicate ((l.length + 31) / 32) 0) []
theorem words_nat (n : Nat) (h : n ≤ 17592186044400) : wire_words.f (n : Int) = some (((n + 31) / 32 : Nat) : Int) := by
  unfold wire_words.f
  have e1 := tmod_nat n 32
  have e2 := tdiv_nat n 32
  rw [show (((32 : Nat) : Int)) = 32 from rfl] at e1 e2
  rw [e1, e2]
  by_cases c : ((n % 32 : Nat) : Int) > 0
  · rw [if_pos c, w64 (x := ((n / 32 : Nat) : Int)) (by omega) (by omega), w64 (by omega) (by omega)]
    congr 1; omega
  · rw [if_neg c, w64 (by omega) (by omega)]
    congr 1; omega
theorem setBit_length (m : List Int) (i : Nat) : (setBit m i).length = m.length := by simp [setBit]
theorem fold_l0 (l : List Int) (hl : l.length ≤ 17592186043904) : ∀ d k i : Nat, ∀ m out : List Int, i + d = l.length → d < k → m.length = (l.length + 31) / 32 → out.length ≤ i →
    wire_Fold_int.l0 k l m out l (l.length : Int) (i : Int) = some (fo l d i m out) := by
  intro d
  induction d with
  | zero =>
    intro k i m out hi hk hm ho
    obtain ⟨k, rfl⟩ : ∃ m, k = m + 1 := ⟨k - 1, by omega⟩
    simp only [wire_Fold_int.l0, fo]
    rw [if_neg (by omega)]
  | succ d ih =>
    intro k i m out hi hk hm ho
    obtain ⟨k, rfl⟩ : ∃ m, k = m + 1 := ⟨k - 1, by omega⟩
    have e1 := tmod_nat i 32
    have e2 := tdiv_nat i 32
    rw [show (((32 : Nat) : Int)) = 32 from rfl] at e1 e2
    simp only [wire_Fold_int.l0, fo]
    rw [e1, e2, w64 (x := ((i / 32 : Nat) : Int)) (by omega) (by omega), w64 (x := 31 - ((i % 32 : Nat) : Int)) (by omega) (by omega), w64 (x := (i : Int) + 1) (by omega) (by omega)]
    rw [show (31 - ((i % 32 : Nat) : Int)) = ((31 - i % 32 : Nat) : Int) by omega, show ((i : Int) + 1) = ((i + 1 : Nat) : Int) by omega]
    rw [rd_nat, rd_nat, Int.toNat_natCast]
    rw [if_pos (by omega), if_pos (by omega), if_pos (by omega)]
    have step : (if (0 : Int) ≤ ((i / 32 : Nat) : Int) then if ((i / 32 : Nat) : Int) < (m.length : Int) then if (0 : Int) ≤ ((31 - i % 32 : Nat) : Int) then if out.length < 17592186044416 then wire_Fold_int.l0 k l (m.set (i / 32) (Go.bits .or .u32 (m.getD (i / 32) 0) (shl .u32 1 ((31 - i % 32 : Nat) : Int)))) (out ++ [l.getD i 0]) l (l.length : Int) ((i + 1 : Nat) : Int) else none else none else none else none)
        = some (fo l d (i + 1) (setBit m i) (out ++ [l.getD i 0])) := by
      rw [if_pos (by omega), if_pos (by omega), if_pos (by omega), if_pos (by omega)]
      exact ih k (i + 1) _ _ (by omega) (by omega) (by rw [← hm]; exact setBit_length m i) (by simp; omega)
    rw [step]
    by_cases c : (i : Int) = 0
    · have c' : i = 0 := by omega
      rw [if_pos c, if_pos (by simp [newRun, c'])]
    · have c' : i ≠ 0 := by omega
      rw [if_neg c, w64 (x := (i : Int) - 1) (by omega) (by omega), show ((i : Int) - 1) = ((i - 1 : Nat) : Int) by omega, rd_nat, if_pos (by omega), if_pos (by omega)]
      by_cases e : l.getD (i - 1) 0 = l.getD i 0
      · rw [if_pos e, if_neg (by simp only [newRun, Bool.or_eq_true, beq_iff_eq, bne_iff_ne]; exact fun h => h.elim c' (fun h => h e))]
        exact ih k (i + 1) _ _ (by omega) (by omega) hm (by omega)
      · rw [if_neg e, if_pos (by simp only [newRun, Bool.or_eq_true, beq_iff_eq, bne_iff_ne]; exact .inr e)]
theorem fold_ev (l : List Int) (hl : l.length ≤ 17592186043904) : Ev (fun k => wire_Fold_int.f k l) (fold l) := by
  refine Ev.of (k := l.length + 1) (wire_Fold_int.mono l) ?_
  unfold wire_Fold_int.f fold
  rw [words_nat l.length (by omega)]
  simp only [Option.bind_some, Int.toNat_natCast]
  rw [if_pos (by omega), if_pos (by omega)]
  exact fold_l0 l hl l.length _ 0 _ _ (by omega) (by omega) (by simp) (by simp)
theorem sameInts_ev (l : List Int) (hl : l.length ≤ 140737488351232) : Ev (fun k => turnpikelaw13_sameInts.f k l l) true := by
  refine Ev.of (k := l.length + 1) (turnpikelaw13_sameInts.mono l l) ?_
  unfold turnpikelaw13_sameInts.f
  rw [if_pos rfl]
  have key : ∀ d k i : Nat, i + d = l.length → d < k → turnpikelaw13_sameInts.l0 k l l (i : Int) = some true := by
    intro d
    induction d with
    | zero =>
      intro k i hi hk
      obtain ⟨k, rfl⟩ : ∃ m, k = m + 1 := ⟨k - 1, by omega⟩
      simp only [turnpikelaw13_sameInts.l0]
      rw [if_neg (by omega)]
    | succ d ih =>
      intro k i hi hk
      obtain ⟨k, rfl⟩ : ∃ m, k = m + 1 := ⟨k - 1, by omega⟩
      simp only [turnpikelaw13_sameInts.l0]
      rw [if_pos (by omega), if_pos (by omega), if_pos (by omega)]
      simp only [if_true]
      rw [w64 (x := (i : Int) + 1) (by omega) (by omega)]
      exact ih k (i + 1) (by omega) (by omega)
  exact key l.length _ 0 (by omega) (by omega)
theorem same32_ev (l : List Int) (hl : l.length ≤ 140737488351232) : Ev (fun k => turnpikelaw13_same32.f k l l) true := by
  refine Ev.of (k := l.length + 1) (turnpikelaw13_same32.mono l l) ?_
  unfold turnpikelaw13_same32.f
  rw [if_pos rfl]
  have key : ∀ d k i : Nat, i + d = l.length → d < k → turnpikelaw13_same32.l0 k l l (i : Int) = some true := by
    intro d
    induction d with
    | zero =>
      intro k i hi hk
      obtain ⟨k, rfl⟩ : ∃ m, k = m + 1 := ⟨k - 1, by omega⟩
      simp only [turnpikelaw13_same32.l0]
      rw [if_neg (by omega)]
    | succ d ih =>
      intro k i hi hk
      obtain ⟨k, rfl⟩ : ∃ m, k = m + 1 := ⟨k - 1, by omega⟩
      simp only [turnpikelaw13_same32.l0]
      rw [if_pos (by omega), if_pos (by omega), if_pos (by omega)]
      simp only [if_true]
      rw [w64 (x := (i : Int) + 1) (by omega) (by omega)]
      exact ih k (i + 1) (by omega) (by omega)
  exact key l.length _ 0 (by omega) (by omega)
theorem fo_len (l : List Int) : ∀ d i m out, (fo l d i m out).1.length = m.length ∧ (fo l d i m out).2.length ≤ out.length + d := by
  intro d
  induction d with
  | zero => intro i m out; exact ⟨rfl, by simp [fo]⟩
  | succ d ih =>
    intro i m out
    unfold fo
    split
    · obtain ⟨h1, h2⟩ := ih (i + 1) (setBit m i) (out ++ [l.getD i 0])
      refine ⟨h1.trans (setBit_length m i), ?_⟩
      rw [List.length_append] at h2; simp only [List.length_cons, List.length_nil] at h2; omega
    · obtain ⟨h1, h2⟩ := ih (i + 1) m out
      exact ⟨h1, by omega⟩
theorem fold_len (l : List Int) : (fold l).1.length = (l.length + 31) / 32 ∧ (fold l).2.length ≤ l.length := by
  obtain ⟨h1, h2⟩ := fo_len l l.length 0 (List.replicate ((l.length + 31) / 32) 0) []
  exact ⟨by unfold fold; rw [h1]; simp, by unfold fold; simpa using h2⟩
end Go.Proofs.Ytpehkbkbfpbolaa.FdO
