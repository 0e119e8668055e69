/- (the part of Dw that tells the sum) What the document's sums and numbers of four bytes come to. -/
import Derived.Laws.BitsLemmas
import Derived.Test.YtpehkbkbfpbolaaCrz
import Derived.Test.YtpehkbkbfpbolaaPZx9
set_option linter.unusedSimpArgs false
set_option linter.unusedVariables false
namespace Go.Proofs.Ytpehkbkbfpbolaa.Ds
open Go.RowKit Go.Proofs.Ytpehkbkbfpbolaa.PZ Go.Proofs.Ytpehkbkbfpbolaa.Pl Go.Proofs.Ytpehkbkbfpbolaa.Cr Go.Proofs.YtpehkbkbfpbolaaW.PrintWords Go.Proofs.YtpehkbkbfpbolaaW.PrintLast Go.Proofs.YtpehkbkbfpbolaaW.PrintMore
theorem step_l0 : ∀ (d k : Nat) (i : Nat) (c : V), i + d = 8 → d < k → turnpikeref13_step.l0 k (toI c) (i : Int) = some (toI (Sn d c))
  | 0, k, i, c, hi, hk => by
    obtain ⟨k, rfl⟩ : ∃ m, k = m + 1 := ⟨k - 1, by omega⟩
    simp only [turnpikeref13_step.l0]
    rw [if_neg (by omega)]
    rfl
  | d + 1, k, i, c, hi, hk => by
    obtain ⟨k, rfl⟩ : ∃ m, k = m + 1 := ⟨k - 1, by omega⟩
    have ih := step_l0 d k (i + 1) (S c) (by omega) (by omega)
    have e : Sn d (S c) = Sn (d + 1) c := by rw [Sn_add d 1 c]; rfl
    simp only [turnpikeref13_step.l0]
    rw [if_pos (by omega), w64 (x := (i : Int) + 1) (by omega) (by omega), and1I, show toI c / (2 : Int) = toI (c >>> 1) from shr1 c, show (i : Int) + 1 = ((i + 1 : Nat) : Int) by omega]
    rw [e] at ih
    cases h : c.getLsbD 0
    · simp only [Bool.false_eq_true, if_false]
      rw [if_neg (by decide)]
      have e2 : S c = c >>> 1 := by unfold S; rw [h]; simp
      rw [← e2]
      exact ih
    · simp only [if_true]
      have e2 : S c = (c >>> 1) ^^^ poly := by unfold S; rw [h]; simp
      rw [litp, xorI, ← e2]
      exact ih
theorem step_some (k : Nat) (hk : 8 < k) (c : V) (x : Int) (hx : 0 ≤ x ∧ x < 256) : turnpikeref13_step.f k (toI c) x = some (toI (Sn 8 (c ^^^ ch x))) := by
  unfold turnpikeref13_step.f
  rw [show x % 4294967296 = x from Int.emod_eq_of_lt hx.1 (by omega)]
  have e : Go.bits .xor .u32 (toI c) x = toI (c ^^^ ch x) := by
    conv => lhs; rw [← ch_I hx]
    exact xorI c (ch x)
  rw [e]
  exact step_l0 8 k 0 _ rfl hk
theorem sum_l0 (l : List Int) (hb : Bytes l) (hl : l.length ≤ 140737488355328) : ∀ (d k i : Nat) (c : V), i + d = l.length → d + 9 < k → turnpikeref13_Sum.l0 k l (toI c) (i : Int) = some (toI (F ^^^ row c (l.drop i)))
  | 0, k, i, c, hi, hk => by
    obtain ⟨k, rfl⟩ : ∃ m, k = m + 1 := ⟨k - 1, by omega⟩
    simp only [turnpikeref13_Sum.l0]
    rw [if_neg (by omega), litF, xorI, List.drop_eq_nil_of_le (by omega)]
    rfl
  | d + 1, k, i, c, hi, hk => by
    obtain ⟨k, rfl⟩ : ∃ m, k = m + 1 := ⟨k - 1, by omega⟩
    have hlt : i < l.length := by omega
    have hx : 0 ≤ rd l (i : Int) ∧ rd l (i : Int) < 256 := by
      rw [show rd l (i : Int) = l[i] from by simp [rd, List.getD_eq_getElem?_getD, List.getElem?_eq_getElem hlt]]
      exact hb _ (List.getElem_mem _)
    simp only [turnpikeref13_Sum.l0]
    rw [if_pos (by omega), if_pos (by omega), step_some k (by omega) c _ hx, Option.bind_some, w64 (x := (i : Int) + 1) (by omega) (by omega), show (i : Int) + 1 = ((i + 1 : Nat) : Int) by omega, sum_l0 l hb hl d k (i + 1) _ (by omega) (by omega)]
    rw [List.drop_eq_getElem_cons hlt]
    have e : rd l (i : Int) = l[i] := by simp [rd, List.getD_eq_getElem?_getD, List.getElem?_eq_getElem hlt]
    rw [e]
    rfl
theorem sum_ev {l : List Int} (hb : Bytes l) (hl : l.length ≤ 140737488355328) : Ev (fun k => turnpikeref13_Sum.f k l) (toI (crc l)) :=
  ⟨l.length + 10, fun k hk => by
    unfold turnpikeref13_Sum.f
    exact sum_l0 l hb hl l.length k 0 F (by omega) (by omega)⟩
end Go.Proofs.Ytpehkbkbfpbolaa.Ds
