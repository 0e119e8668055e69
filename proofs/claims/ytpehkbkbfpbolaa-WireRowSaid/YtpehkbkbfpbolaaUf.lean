/- What wire.Unfold of numbers and the document's Unfold come to. -/
import Derived.Test.YtpehkbkbfpbolaaSe
import Derived.Test.YtpehkbkbfpbolaaPWx41
set_option linter.unusedSimpArgs false
set_option linter.unusedVariables false
namespace Go.Proofs.Ytpehkbkbfpbolaa.Uf
open Go.RowKit Go.Proofs.Ytpehkbkbfpbolaa.PW Go.Proofs.Ytpehkbkbfpbolaa.Pl Go.Proofs.Ytpehkbkbfpbolaa.Fd Go.Proofs.Ytpehkbkbfpbolaa.Bm Go.Proofs.Ytpehkbkbfpbolaa.Se Go.Proofs.YtpehkbkbfpbolaaW.PrintWords Go.Proofs.YtpehkbkbfpbolaaW.PrintLast Go.Proofs.YtpehkbkbfpbolaaW.PrintMore
theorem words_all (n : Nat) (h : n ≤ 9223372036854775807) : wire_words.f (n : Int) = some (((n + 31) / 32 : Nat) : Int) := by
  unfold wire_words.f
  have e1 := tmod_nat n 32
  have e2 := tdiv_nat n 32
  rw [show (((32 : Nat) : Int)) = 32 from rfl] at e1 e2
  rw [e1, e2, wn (by omega)]
  by_cases c : ((n % 32 : Nat) : Int) > 0
  · rw [if_pos c, w64 (by omega) (by omega)]
    exact congrArg some (by omega)
  · rw [if_neg c]
    exact congrArg some (by omega)
def noAdj (l : List Int) : Nat → Nat → Bool
  | 0, _ => true
  | d + 1, i => if l.getD (i - 1) 0 = l.getD i 0 then false else noAdj l d (i + 1)
def unf (m l : List Int) (n : Nat) : List Int := (List.range n).map fun i => l.getD (cnt m (i + 1) - 1) 0
def goodU (m l : List Int) (n : Nat) : Bool := decide (m.length = (n + 31) / 32) && (decide (onesN m = l.length) && (decide (n = 0 ∨ bit m 0 = true) && (decide (cnt m n = onesN m) && noAdj l (l.length - 1) 1)))
def unfS (m l : List Int) (n : Int) : List Int × Int := if n < 0 then ([], 1) else if goodU m l n.toNat then (unf m l n.toNat, 0) else ([], 25)
theorem bit_word {m : List Int} (hm : W32 m) (i : Nat) (hi : i < 32 * m.length) : Go.bits .and .u32 (shr .u32 (m.getD (i / 32) 0) ((31 - i % 32 : Nat) : Int)) 1 = (((if bit m i then 1 else 0) : Nat) : Int) := by
  have hw := w32_get hm (i / 32)
  rw [get_nat hm, shr_nat _ _ (by omega), and1 _ (div_lt32 _ _ (by omega))]
  unfold bit
  rw [Nat.testBit_eq_decide_div_mod_eq]
  have := Nat.mod_lt ((m.getD (i / 32) 0).toNat / 2 ^ (31 - i % 32)) (show 2 > 0 by decide)
  by_cases h : (m.getD (i / 32) 0).toNat / 2 ^ (31 - i % 32) % 2 = 1
  · rw [h]; rfl
  · rw [show (m.getD (i / 32) 0).toNat / 2 ^ (31 - i % 32) % 2 = 0 by omega]; rfl
theorem unf_succ (m l : List Int) (i : Nat) : unf m l (i + 1) = unf m l i ++ [l.getD (cnt m (i + 1) - 1) 0] := by
  unfold unf; rw [List.range_succ, List.map_append]; rfl
theorem unf_length (m l : List Int) (n : Nat) : (unf m l n).length = n := by simp [unf]
theorem build {m l : List Int} (hm : W32 m) (n : Nat) (hml : m.length ≤ 3000) (hn : n ≤ 32 * m.length) (h0 : n = 0 ∨ bit m 0 = true) (hc : cnt m n ≤ l.length) : ∀ d k i : Nat, i + d = n → d < k →
    wire_Unfold_int.l1 k m l (unf m l i) ((cnt m i : Nat) : Int) (n : Int) (i : Int) = some (unf m l n, 0) := by
  intro d
  induction d with
  | zero =>
    intro k i hi hk
    obtain ⟨k, rfl⟩ : ∃ m, k = m + 1 := ⟨k - 1, by omega⟩
    obtain rfl : i = n := by omega
    simp only [wire_Unfold_int.l1]
    rw [if_neg (by omega)]
  | succ d ih =>
    intro k i hi hk
    obtain ⟨k, rfl⟩ : ∃ m, k = m + 1 := ⟨k - 1, by omega⟩
    have e1 := tmod_nat i 32
    have e2 := tdiv_nat i 32
    rw [show (((32 : Nat) : Int)) = 32 from rfl] at e1 e2
    have hb := bit_word hm i (by omega)
    have hs := cnt_succ m i
    have hle := cnt_le m i
    have hmo := cnt_mono m (show i + 1 ≤ n by omega)
    have hpos : 1 ≤ cnt m (i + 1) := by
      have h1 := cnt_mono m (show 1 ≤ i + 1 by omega)
      have h2 : cnt m 1 = cnt m 0 + (if bit m 0 then 1 else 0) := cnt_succ m 0
      rw [if_pos (h0.resolve_left (by omega))] at h2
      omega
    have hcn := cnt_le m n
    simp only [wire_Unfold_int.l1]
    rw [e1, e2, wn (n := i / 32) (by omega), w64 (x := 31 - ((i % 32 : Nat) : Int)) (by omega) (by omega), w64 (x := (i : Int) + 1) (by omega) (by omega), rd_nat]
    rw [show (31 - ((i % 32 : Nat) : Int)) = ((31 - i % 32 : Nat) : Int) by omega, hb, wn (by split <;> omega)]
    rw [show ((cnt m i : Nat) : Int) + (((if bit m i then 1 else 0) : Nat) : Int) = ((cnt m (i + 1) : Nat) : Int) by rw [hs]; omega]
    rw [wn (n := cnt m (i + 1)) (by omega), w64 (x := ((cnt m (i + 1) : Nat) : Int) - 1) (by omega) (by omega), show ((cnt m (i + 1) : Nat) : Int) - 1 = ((cnt m (i + 1) - 1 : Nat) : Int) by omega, rd_nat]
    rw [if_pos (by omega), if_pos (by omega), if_pos (by omega), if_pos (by omega), if_pos (by omega), if_pos (by omega), if_pos (by rw [unf_length]; omega), ← unf_succ]
    exact ih k (i + 1) (by omega) (by omega)
theorem adj {m l : List Int} (n : Nat) (hl : l.length ≤ 17592186043904) (B : Nat) (hB : ∀ k, B ≤ k → wire_Unfold_int.l1 k m l [] 0 (n : Int) 0 = some (unf m l n, 0)) (hn : n ≤ 96000) : ∀ d k i : Nat, 1 ≤ i → (i + d = l.length ∨ d = 0 ∧ l.length ≤ i) → d + B < k →
    wire_Unfold_int.l0 k m (n : Int) l (i : Int) = some (if noAdj l d i then (unf m l n, 0) else ([], 25)) := by
  intro d
  induction d with
  | zero =>
    intro k i h1 hi hk
    obtain ⟨k, rfl⟩ : ∃ m, k = m + 1 := ⟨k - 1, by omega⟩
    simp only [wire_Unfold_int.l0, noAdj, if_true]
    rw [if_neg (by omega), if_pos (by omega), if_pos (by omega)]
    exact hB k (by omega)
  | succ d ih =>
    intro k i h1 hi hk
    obtain ⟨k, rfl⟩ : ∃ m, k = m + 1 := ⟨k - 1, by omega⟩
    simp only [wire_Unfold_int.l0]
    rw [if_pos (by omega), w64 (x := (i : Int) - 1) (by omega) (by omega), w64 (x := (i : Int) + 1) (by omega) (by omega), show (i : Int) - 1 = ((i - 1 : Nat) : Int) by omega, rd_nat, rd_nat, if_pos (by omega), if_pos (by omega), if_pos (by omega)]
    by_cases e : l.getD (i - 1) 0 = l.getD i 0
    · rw [if_pos e, show noAdj l (d + 1) i = false by simp only [noAdj]; rw [if_pos e]]; rfl
    · rw [if_neg e, show noAdj l (d + 1) i = noAdj l d (i + 1) by rw [noAdj, if_neg e]]
      exact ih k (i + 1) (by omega) (by omega) (by omega)
theorem top_bit {m : List Int} (hm : W32 m) (h : 0 < m.length) : (rd m 0 / 2147483648 == 0) = !bit m 0 := by
  have hw := w32_get hm 0
  have e : rd m 0 = m.getD 0 0 := rd_nat m 0
  rw [e, get_nat hm]
  unfold bit
  rw [Nat.testBit_eq_decide_div_mod_eq]
  have h2 : (m.getD (0 / 32) 0).toNat / 2 ^ (31 - 0 % 32) = (m.getD 0 0).toNat / 2147483648 := rfl
  rw [h2]
  have h3 : (m.getD 0 0).toNat / 2147483648 ≤ 1 := by omega
  have h4 : (((m.getD 0 0).toNat : Int)) / 2147483648 = (((m.getD 0 0).toNat / 2147483648 : Nat) : Int) := by omega
  rw [h4]
  rcases (show (m.getD 0 0).toNat / 2147483648 = 0 ∨ (m.getD 0 0).toNat / 2147483648 = 1 by omega) with h5 | h5 <;> rw [h5] <;> rfl
theorem unfold_ev {m l : List Int} (hm : W32 m) (hml : m.length ≤ 3000) (hl : l.length ≤ 17592186043904) (n : Int) (hn : n ≤ 9223372036854775807) : Ev (fun k => wire_Unfold_int.f k m n l) (unfS m l n) := by
  unfold unfS
  by_cases h0 : n < 0
  · rw [if_pos h0]
    refine Ev.of (k := 0) (wire_Unfold_int.mono m n l) ?_
    unfold wire_Unfold_int.f
    rw [if_pos h0]
  · obtain ⟨n, rfl⟩ := Int.eq_ofNat_of_zero_le (show 0 ≤ n by omega)
    rw [if_neg h0, Int.toNat_natCast]
    obtain ⟨K1, e1⟩ : ∃ K, ∀ k, K ≤ k → wire_Ones.f k m = some ((onesN m : Nat) : Int) := ones_ev hm (by omega)
    have bad : ∀ k, 1 ≤ k → wire_Unfold_int.j0 k m (n : Int) l true = some ([], 25) := by
      intro k hk
      obtain ⟨k, rfl⟩ : ∃ m, k = m + 1 := ⟨k - 1, by omega⟩
      simp only [wire_Unfold_int.j0, if_true]
    have start : ∀ k, wire_Unfold_int.f k m (n : Int) l = if (m.length : Int) = (((n + 31) / 32 : Nat) : Int) then ((wire_Ones.f k m).bind fun t348 => (if t348 = (l.length : Int) then (if (n : Int) > 0 then (if 0 < (m.length : Int) then (wire_Unfold_int.j0 k m (n : Int) l (((rd m 0) / 2147483648) == 0)) else (none)) else (wire_Unfold_int.j0 k m (n : Int) l false)) else (wire_Unfold_int.j0 k m (n : Int) l true))) else (wire_Unfold_int.j0 k m (n : Int) l true) := by
      intro k
      unfold wire_Unfold_int.f
      rw [if_neg h0, words_all n (by omega), Option.bind_some]
    by_cases c1 : m.length = (n + 31) / 32
    · by_cases c2 : onesN m = l.length
      · by_cases c3 : n = 0 ∨ bit m 0 = true
        · have hone := onesN_le m
          have hcl : cnt m n ≤ onesN m := by rw [← cnt_all]; exact cnt_mono m (by omega)
          -- the select
          obtain ⟨K2, s, e2, hs⟩ : ∃ K s, (∀ k, K ≤ k → wire_Select.f k m (wrap64 ((l.length : Int) - 1)) = some s) ∧ ((s.2 = 0 → (decide (s.1 ≥ (n : Int)) = !decide (cnt m n = onesN m))) ∧ (s.2 ≠ 0 → cnt m n = onesN m)) := by
            rw [w64 (by omega) (by omega)]
            rcases Nat.eq_zero_or_pos l.length with hz | hz
            · refine ⟨0, (0, 2), fun k _ => ?_, fun h => absurd h (by decide), fun _ => by omega⟩
              unfold wire_Select.f
              rw [if_pos (by omega)]
            · obtain ⟨p, q1, q2, q3⟩ := place_of m (l.length - 1) (32 * m.length) (by rw [cnt_all]; omega)
              obtain ⟨K, hK⟩ : ∃ K, ∀ k, K ≤ k → wire_Select.f k m ((cnt m p : Nat) : Int) = some ((p : Int), 0) := sel_found hm (by omega) p q1 q2
              rw [q3, show ((l.length - 1 : Nat) : Int) = (l.length : Int) - 1 by omega] at hK
              refine ⟨K, _, hK, fun _ => ?_, fun h => absurd rfl h⟩
              have q4 := cnt_succ m p
              rw [if_pos q2] at q4
              rcases Nat.lt_or_ge p n with h | h
              · have := cnt_mono m (show p + 1 ≤ n by omega)
                rw [decide_eq_false (by omega), decide_eq_true (by omega)]; rfl
              · have := cnt_mono m h
                rw [decide_eq_true (by omega), decide_eq_false (by omega)]; rfl
          have bad1 : ∀ k, 1 ≤ k → wire_Unfold_int.j1 k m (n : Int) l true = some ([], 25) := by
            intro k hk
            obtain ⟨k, rfl⟩ : ∃ m, k = m + 1 := ⟨k - 1, by omega⟩
            simp only [wire_Unfold_int.j1, if_true]
          have good1 : ∀ k, n + 2 + l.length + 2 < k → wire_Unfold_int.j1 k m (n : Int) l false = some (if noAdj l (l.length - 1) 1 then (unf m l n, 0) else ([], 25)) := by
            intro k hk
            obtain ⟨k, rfl⟩ : ∃ m, k = m + 1 := ⟨k - 1, by omega⟩
            simp only [wire_Unfold_int.j1, Bool.false_eq_true, if_false]
            exact adj n hl (n + 1) (fun k hk => build hm n hml (by omega) c3 (by omega) n k 0 (by omega) (by omega)) (by omega) (l.length - 1) k 1 (by omega) (by omega) (by omega)
          have next : ∀ k, K2 + n + l.length + 8 < k → wire_Unfold_int.j0 k m (n : Int) l false = some (if goodU m l n then (unf m l n, 0) else ([], 25)) := by
            intro k hk
            obtain ⟨k, rfl⟩ : ∃ m, k = m + 1 := ⟨k - 1, by omega⟩
            simp only [wire_Unfold_int.j0, Bool.false_eq_true, if_false]
            rw [e2 k (by omega), Option.bind_some]
            have hg : goodU m l n = (decide (cnt m n = onesN m) && noAdj l (l.length - 1) 1) := by
              unfold goodU
              rw [decide_eq_true c1, decide_eq_true c2, decide_eq_true c3]; rfl
            rw [hg]
            by_cases c : s.2 = 0
            · rw [if_pos c, hs.1 c]
              by_cases c4 : cnt m n = onesN m
              · rw [decide_eq_true c4]
                exact good1 k (by omega)
              · rw [decide_eq_false c4]
                exact bad1 k (by omega)
            · rw [if_neg c, good1 k (by omega), decide_eq_true (hs.2 c)]; rfl
          refine Ev.of (k := K1 + K2 + n + l.length + 9) (wire_Unfold_int.mono m (n : Int) l) ?_
          rw [start, if_pos (by omega), e1 _ (by omega), Option.bind_some, if_pos (by omega)]
          by_cases c : (n : Int) > 0
          · rw [if_pos c, if_pos (by omega), top_bit hm (by omega), c3.resolve_left (by omega)]
            exact next _ (by omega)
          · rw [if_neg c]
            exact next _ (by omega)
        · refine Ev.of (k := K1 + 1) (wire_Unfold_int.mono m (n : Int) l) ?_
          have hg : goodU m l n = false := by
            unfold goodU
            rw [decide_eq_true c1, decide_eq_true c2, decide_eq_false c3]; rfl
          have hb0 : bit m 0 = false := by
            cases h : bit m 0
            · rfl
            · exact absurd (.inr h) c3
          rw [start, if_pos (by omega), e1 _ (by omega), Option.bind_some, if_pos (by omega), if_pos (by omega), if_pos (by omega), top_bit hm (by omega), hb0, hg]
          exact bad _ (by omega)
      · refine Ev.of (k := K1 + 1) (wire_Unfold_int.mono m (n : Int) l) ?_
        have hg : goodU m l n = false := by
          unfold goodU
          rw [decide_eq_true c1, decide_eq_false c2]; rfl
        rw [start, if_pos (by omega), e1 _ (by omega), Option.bind_some, if_neg (by omega), hg]
        exact bad _ (by omega)
    · refine Ev.of (k := 1) (wire_Unfold_int.mono m (n : Int) l) ?_
      have hg : goodU m l n = false := by
        unfold goodU
        rw [decide_eq_false c1]; rfl
      rw [start, if_neg (by omega), hg]
      exact bad _ (by omega)
end Go.Proofs.Ytpehkbkbfpbolaa.Uf
