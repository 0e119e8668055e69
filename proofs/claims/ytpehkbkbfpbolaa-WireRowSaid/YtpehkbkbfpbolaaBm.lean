/- Bitmaps: how many places of a word, of a row of words are set; what OnesCount32, Ones and Rank come to. -/
import Derived.Test.YtpehkbkbfpbolaaFd
import Derived.Laws.BitsLemmas
import Derived.OpenShut
import Derived.Test.YtpehkbkbfpbolaaPWx29
import Derived.Test.YtpehkbkbfpbolaaPWx30
import Derived.Test.YtpehkbkbfpbolaaPWx31
import Derived.Test.YtpehkbkbfpbolaaPWx35
import Derived.Test.YtpehkbkbfpbolaaPWx36
import Derived.Test.YtpehkbkbfpbolaaPWx38
set_option linter.unusedSimpArgs false
set_option linter.unusedVariables false
namespace Go.Proofs.Ytpehkbkbfpbolaa.Bm
open Go.RowKit Go.Proofs.Ytpehkbkbfpbolaa.PW Go.Proofs.Ytpehkbkbfpbolaa.Pl Go.Proofs.Ytpehkbkbfpbolaa.Fd Go.Proofs.YtpehkbkbfpbolaaW.PrintWords Go.Proofs.YtpehkbkbfpbolaaW.PrintLast Go.Proofs.YtpehkbkbfpbolaaW.PrintMore
def W32 (m : List Int) : Prop := ∀ x ∈ m, 0 ≤ x ∧ x < 4294967296
theorem w32_of_wf {m : List Int} (h : ∀ x ∈ m, (Lit.int .u32 x).wf = true) : W32 m := fun x hx => by
  have := bounds_u32 (h x hx); omega
theorem w32_get {m : List Int} (h : W32 m) (i : Nat) : 0 ≤ m.getD i 0 ∧ m.getD i 0 < 4294967296 := by
  rw [List.getD_eq_getElem?_getD]
  rcases Nat.lt_or_ge i m.length with hi | hi
  · rw [List.getElem?_eq_getElem hi]; exact h _ (List.getElem_mem hi)
  · rw [List.getElem?_eq_none hi]; exact ⟨by decide, by decide⟩
/-- How many of a number's last n binary digits are ones. -/
def pop : Nat → Nat → Nat
  | 0, _ => 0
  | n + 1, v => v % 2 + pop n (v / 2)
theorem pop_add (a b v : Nat) : pop (a + b) v = pop a v + pop b (v / 2 ^ a) := by
  induction a generalizing v with
  | zero => simp [pop]
  | succ a ih =>
    rw [show a + 1 + b = (a + b) + 1 by omega]
    simp only [pop]
    rw [ih, Nat.div_div_eq_div_mul, show 2 * 2 ^ a = 2 ^ (a + 1) by rw [Nat.pow_succ, Nat.mul_comm]]
    omega
theorem pop_mod (n v : Nat) : pop n (v % 2 ^ n) = pop n v := by
  induction n generalizing v with
  | zero => rfl
  | succ n ih =>
    simp only [pop]
    have e1 : v % 2 ^ (n + 1) % 2 = v % 2 := by
      rw [Nat.pow_succ, Nat.mul_comm]; exact Nat.mod_mul_right_mod _ _ _
    have e2 : v % 2 ^ (n + 1) / 2 = v / 2 % 2 ^ n := by
      rw [Nat.pow_succ, Nat.mul_comm]; exact Nat.mod_mul_right_div_self _ _ _
    rw [e1, e2, ih]
theorem pop_le (n v : Nat) : pop n v ≤ n := by
  induction n generalizing v with
  | zero => exact Nat.le_refl _
  | succ n ih => simp only [pop]; have := ih (v / 2); omega
theorem pop_zero (n : Nat) : pop n 0 = 0 := by
  induction n with
  | zero => rfl
  | succ n ih => simp [pop, ih]
def tab8 : ByteArray := ⟨#[0, 1, 1, 2, 1, 2, 2, 3, 1, 2, 2, 3, 2, 3, 3, 4, 1, 2, 2, 3, 2, 3, 3, 4, 2, 3, 3, 4, 3, 4, 4, 5, 1, 2, 2, 3, 2, 3, 3, 4, 2, 3, 3, 4, 3, 4, 4, 5, 2, 3, 3, 4, 3, 4, 4, 5, 3, 4, 4, 5, 4, 5, 5, 6, 1, 2, 2, 3, 2, 3, 3, 4, 2, 3, 3, 4, 3, 4, 4, 5, 2, 3, 3, 4, 3, 4, 4, 5, 3, 4, 4, 5, 4, 5, 5, 6, 2, 3, 3, 4, 3, 4, 4, 5, 3, 4, 4, 5, 4, 5, 5, 6, 3, 4, 4, 5, 4, 5, 5, 6, 4, 5, 5, 6, 5, 6, 6, 7, 1, 2, 2, 3, 2, 3, 3, 4, 2, 3, 3, 4, 3, 4, 4, 5, 2, 3, 3, 4, 3, 4, 4, 5, 3, 4, 4, 5, 4, 5, 5, 6, 2, 3, 3, 4, 3, 4, 4, 5, 3, 4, 4, 5, 4, 5, 5, 6, 3, 4, 4, 5, 4, 5, 5, 6, 4, 5, 5, 6, 5, 6, 6, 7, 2, 3, 3, 4, 3, 4, 4, 5, 3, 4, 4, 5, 4, 5, 5, 6, 3, 4, 4, 5, 4, 5, 5, 6, 4, 5, 5, 6, 5, 6, 6, 7, 3, 4, 4, 5, 4, 5, 5, 6, 4, 5, 5, 6, 5, 6, 6, 7, 4, 5, 5, 6, 5, 6, 6, 7, 5, 6, 6, 7, 6, 7, 7, 8]⟩
theorem tab8_pop : ∀ b : Nat, b < 256 → bt tab8 (b : Int) = (pop 8 b : Nat) := by decide +kernel
theorem and255 (x : Nat) : Go.bits .and .u32 (x : Int) 255 = ((x % 256 : Nat) : Int) ∨ 4294967296 ≤ x := by
  rcases Nat.lt_or_ge x 4294967296 with h | h
  · left
    have := bits_mask .u32 32 (by decide) (fun n h0 h1 => by rw [IntKind.wrap_u32]; omega) 8 (by decide) (x : Int) (by omega) (by omega)
    rw [show ((2 : Int) ^ 8 - 1) = 255 from rfl] at this
    rw [this]; omega
  · exact .inr h
theorem onesf (a0 : Int) : bits_OnesCount32.f a0 = if 0 ≤ (a0 / 16777216) then (if (a0 / 16777216) < 256 then (if 0 ≤ (Go.bits .and .u32 (a0 / 65536) 255) then (if (Go.bits .and .u32 (a0 / 65536) 255) < 256 then (if 0 ≤ (Go.bits .and .u32 (a0 / 256) 255) then (if (Go.bits .and .u32 (a0 / 256) 255) < 256 then (if 0 ≤ (Go.bits .and .u32 a0 255) then (if (Go.bits .and .u32 a0 255) < 256 then (some (((((((bt tab8 (a0 / 16777216)) + (bt tab8 (Go.bits .and .u32 (a0 / 65536) 255))) % 256) + (bt tab8 (Go.bits .and .u32 (a0 / 256) 255))) % 256) + (bt tab8 (Go.bits .and .u32 a0 255))) % 256)) else (none)) else (none)) else (none)) else (none)) else (none)) else (none)) else (none)) else (none) := rfl
theorem ones32 (v : Nat) (h : v < 4294967296) : bits_OnesCount32.f (v : Int) = some ((pop 32 v : Nat) : Int) := by
  have hp : pop 32 v = pop 8 (v / 16777216) + pop 8 (v / 65536 % 256) + pop 8 (v / 256 % 256) + pop 8 (v % 256) := by
    rw [show (32 : Nat) = 8 + (8 + (8 + 8)) from rfl, pop_add, pop_add, pop_add, Nat.div_div_eq_div_mul, Nat.div_div_eq_div_mul]
    rw [show (256 : Nat) = 2 ^ 8 from rfl, pop_mod, pop_mod, pop_mod]
    rw [show (2 : Nat) ^ 8 * 2 ^ 8 = 65536 from rfl, show (65536 : Nat) * 2 ^ 8 = 16777216 from rfl]
    omega
  have q0 := pop_le 8 (v / 16777216)
  have q1 := pop_le 8 (v / 65536 % 256)
  have q2 := pop_le 8 (v / 256 % 256)
  have q3 := pop_le 8 (v % 256)
  have e0 : (v : Int) / 16777216 = ((v / 16777216 : Nat) : Int) := by omega
  have e1 : Go.bits .and .u32 ((v : Int) / 65536) 255 = ((v / 65536 % 256 : Nat) : Int) := by
    rw [show (v : Int) / 65536 = ((v / 65536 : Nat) : Int) by omega]
    exact (and255 _).resolve_right (by omega)
  have e2 : Go.bits .and .u32 ((v : Int) / 256) 255 = ((v / 256 % 256 : Nat) : Int) := by
    rw [show (v : Int) / 256 = ((v / 256 : Nat) : Int) by omega]
    exact (and255 _).resolve_right (by omega)
  have e3 : Go.bits .and .u32 (v : Int) 255 = ((v % 256 : Nat) : Int) := (and255 _).resolve_right (by omega)
  have t0 := tab8_pop (v / 16777216) (by omega)
  have t1 := tab8_pop (v / 65536 % 256) (by omega)
  have t2 := tab8_pop (v / 256 % 256) (by omega)
  have t3 := tab8_pop (v % 256) (by omega)
  rw [onesf]
  rw [e0, e1, e2, e3, t0, t1, t2, t3, hp]
  rw [if_pos (by omega), if_pos (by omega), if_pos (by omega), if_pos (by omega), if_pos (by omega), if_pos (by omega), if_pos (by omega), if_pos (by omega)]
  refine congrArg some ?_
  clear t0 t1 t2 t3 e0 e1 e2 e3 hp
  generalize pop 8 (v / 16777216) = a at *
  generalize pop 8 (v / 65536 % 256) = b at *
  generalize pop 8 (v / 256 % 256) = c at *
  generalize pop 8 (v % 256) = d at *
  omega
theorem ones32_get {m : List Int} (h : W32 m) (i : Nat) : bits_OnesCount32.f (m.getD i 0) = some ((pop 32 (m.getD i 0).toNat : Nat) : Int) := by
  have := w32_get h i
  rw [← ones32 _ (by omega)]
  exact congrArg _ (by omega)
def onesN (m : List Int) : Nat := (m.map fun x => pop 32 x.toNat).sum
theorem onesN_le (m : List Int) : onesN m ≤ 32 * m.length := by
  induction m with
  | nil => exact Nat.le_refl _
  | cons x m ih =>
    have := pop_le 32 x.toNat
    simp only [onesN, List.map_cons, List.sum_cons, List.length_cons] at ih ⊢
    omega
theorem onesN_drop (m : List Int) (i : Nat) (h : i < m.length) : onesN (m.drop i) = pop 32 (m.getD i 0).toNat + onesN (m.drop (i + 1)) := by
  rw [List.drop_eq_getElem_cons h]
  simp only [onesN, List.map_cons, List.sum_cons]
  rw [List.getD_eq_getElem?_getD, List.getElem?_eq_getElem h, Option.getD_some]
theorem ones_l0 {m : List Int} (hm : W32 m) (hl : m.length ≤ 35184372087808) : ∀ d k i n : Nat, i + d = m.length → d < k → n ≤ 32 * i → wire_Ones.l0 k (n : Int) m (m.length : Int) (i : Int) = some ((n + onesN (m.drop i) : Nat) : Int) := by
  intro d
  induction d with
  | zero =>
    intro k i n hi hk hn
    obtain ⟨k, rfl⟩ : ∃ m, k = m + 1 := ⟨k - 1, by omega⟩
    simp only [wire_Ones.l0]
    rw [if_neg (by omega), List.drop_eq_nil_of_le (by omega)]
    rfl
  | succ d ih =>
    intro k i n hi hk hn
    obtain ⟨k, rfl⟩ : ∃ m, k = m + 1 := ⟨k - 1, by omega⟩
    have hp := pop_le 32 (m.getD i 0).toNat
    simp only [wire_Ones.l0]
    rw [if_pos (by omega), if_pos (by omega), if_pos (by omega), rd_nat, ones32_get hm i, Option.bind_some]
    rw [w64 (by omega) (by omega), w64 (by omega) (by omega)]
    rw [show ((n : Int) + ((pop 32 (m.getD i 0).toNat : Nat) : Int)) = ((n + pop 32 (m.getD i 0).toNat : Nat) : Int) by omega, show ((i : Int) + 1) = ((i + 1 : Nat) : Int) by omega]
    rw [ih k (i + 1) _ (by omega) (by omega) (by omega), onesN_drop m i (by omega), Nat.add_assoc]
theorem ones_ev {m : List Int} (hm : W32 m) (hl : m.length ≤ 35184372087808) : Ev (fun k => wire_Ones.f k m) ((onesN m : Nat) : Int) := by
  refine Ev.of (k := m.length + 1) (wire_Ones.mono m) ?_
  unfold wire_Ones.f
  have := ones_l0 hm hl m.length (m.length + 1) 0 0 (by omega) (by omega) (by omega)
  simpa using this
/-! places -/
def bit (m : List Int) (i : Nat) : Bool := (m.getD (i / 32) 0).toNat.testBit (31 - i % 32)
def cnt (m : List Int) (n : Nat) : Nat := ((List.range n).filter (bit m)).length
theorem cnt_succ (m : List Int) (n : Nat) : cnt m (n + 1) = cnt m n + (if bit m n then 1 else 0) := by
  unfold cnt
  rw [List.range_succ, List.filter_append, List.length_append]
  congr 1
  by_cases h : bit m n <;> simp [h]
theorem pop_shift (v j : Nat) (hj : j ≤ 31) (hv : v < 4294967296) : pop 32 (v / 2 ^ (31 - j)) = pop (j + 1) (v / 2 ^ (31 - j)) := by
  have h1 : pop ((j + 1) + (31 - j)) (v / 2 ^ (31 - j)) = pop (j + 1) (v / 2 ^ (31 - j)) + pop (31 - j) (v / 2 ^ (31 - j) / 2 ^ (j + 1)) := pop_add _ _ _
  rw [Nat.div_div_eq_div_mul, ← Nat.pow_add, show 31 - j + (j + 1) = 32 by omega, Nat.div_eq_of_lt (show v < 2 ^ 32 from hv), pop_zero, show j + 1 + (31 - j) = 32 by omega] at h1
  exact h1
theorem pop_next (w p : Nat) (hp : p < 32) : pop (p + 1) (w / 2 ^ (31 - p)) = pop p (w / 2 ^ (32 - p)) + (if w.testBit (31 - p) then 1 else 0) := by
  simp only [pop]
  rw [Nat.div_div_eq_div_mul, ← Nat.pow_succ, show (31 - p).succ = 32 - p by omega, Nat.add_comm]
  congr 1
  rw [Nat.testBit_eq_decide_div_mod_eq]
  have := Nat.mod_lt (w / 2 ^ (31 - p)) (show 2 > 0 by decide)
  by_cases h : w / 2 ^ (31 - p) % 2 = 1
  · simp [h]
  · simp [h]; omega
theorem cnt_word (m : List Int) (q : Nat) : ∀ p, p ≤ 32 → cnt m (32 * q + p) = cnt m (32 * q) + pop p ((m.getD q 0).toNat / 2 ^ (32 - p)) := by
  intro p
  induction p with
  | zero => intro _; simp [pop]
  | succ p ih =>
    intro hp
    rw [show 32 * q + (p + 1) = (32 * q + p) + 1 by omega, cnt_succ, ih (by omega), show 32 - (p + 1) = 31 - p by omega, pop_next _ p (by omega), Nat.add_assoc]
    congr 2
    unfold bit
    rw [show (32 * q + p) / 32 = q by omega, show (32 * q + p) % 32 = p by omega]
theorem onesN_take (m : List Int) (q : Nat) (h : q < m.length) : onesN (m.take (q + 1)) = onesN (m.take q) + pop 32 (m.getD q 0).toNat := by
  rw [List.take_succ_eq_append_getElem h]
  simp only [onesN, List.map_append, List.sum_append, List.map_cons, List.map_nil, List.sum_cons, List.sum_nil]
  rw [List.getD_eq_getElem?_getD, List.getElem?_eq_getElem h, Option.getD_some, Nat.add_zero]
theorem cnt_words (m : List Int) : ∀ q, q ≤ m.length → cnt m (32 * q) = onesN (m.take q) := by
  intro q
  induction q with
  | zero => intro _; rfl
  | succ q ih =>
    intro hq
    rw [show 32 * (q + 1) = 32 * q + 32 by omega, cnt_word m q 32 (by omega), ih (by omega), onesN_take m q (by omega)]
    simp
theorem cnt_all (m : List Int) : cnt m (32 * m.length) = onesN m := by
  rw [cnt_words m m.length (Nat.le_refl _), List.take_length]
theorem cnt_le (m : List Int) (n : Nat) : cnt m n ≤ n := by
  unfold cnt
  exact Nat.le_trans (List.length_filter_le _ _) (by simp)
theorem cnt_mono (m : List Int) {i j : Nat} (h : i ≤ j) : cnt m i ≤ cnt m j := by
  induction h with
  | refl => exact Nat.le_refl _
  | step _ ih => rw [cnt_succ]; omega
theorem and1 (x : Nat) (h : x < 4294967296) : Go.bits .and .u32 (x : Int) 1 = ((x % 2 : Nat) : Int) := by
  have := bits_mask .u32 32 (by decide) (fun n h0 h1 => by rw [IntKind.wrap_u32]; omega) 1 (by decide) (x : Int) (by omega) (by omega)
  rw [show ((2 : Int) ^ 1 - 1) = 1 from rfl] at this
  rw [this]; omega
theorem shr_nat (x s : Nat) (hs : s ≤ 32) : shr .u32 (x : Int) (s : Int) = ((x / 2 ^ s : Nat) : Int) := by
  unfold shr
  rw [show (IntKind.u32).bits = 32 from rfl, Int.toNat_natCast, Nat.min_eq_left hs]
  push_cast
  rfl
theorem get_nat {m : List Int} (hm : W32 m) (i : Nat) : m.getD i 0 = ((m.getD i 0).toNat : Int) := by
  have := w32_get hm i; omega
theorem div_lt32 (x s : Nat) (h : x < 4294967296) : x / 2 ^ s < 4294967296 := Nat.lt_of_le_of_lt (Nat.div_le_self _ _) h
theorem is_some {m : List Int} (hm : W32 m) (hl : m.length ≤ 35184372087808) (i : Nat) (hi : i < 32 * m.length) : turnpikeref13_Is.f m (i : Int) = some (bit m i) := by
  have e1 := tmod_nat i 32
  have e2 := tdiv_nat i 32
  rw [show (((32 : Nat) : Int)) = 32 from rfl] at e1 e2
  have hw := w32_get hm (i / 32)
  unfold turnpikeref13_Is.f
  rw [e1, e2, w64 (x := ((i / 32 : Nat) : Int)) (by omega) (by omega), w64 (x := 31 - ((i % 32 : Nat) : Int)) (by omega) (by omega), rd_nat]
  rw [show (31 - ((i % 32 : Nat) : Int)) = ((31 - i % 32 : Nat) : Int) by omega, if_pos (by omega), if_pos (by omega), if_pos (by omega)]
  rw [get_nat hm, shr_nat _ _ (by omega), and1 _ (div_lt32 _ _ (by omega))]
  congr 1
  unfold bit
  rw [Nat.testBit_eq_decide_div_mod_eq]
  have := Nat.mod_lt ((m.getD (i / 32) 0).toNat / 2 ^ (31 - i % 32)) (show 2 > 0 by decide)
  by_cases h : (m.getD (i / 32) 0).toNat / 2 ^ (31 - i % 32) % 2 = 1
  · rw [h]; rfl
  · rw [show (m.getD (i / 32) 0).toNat / 2 ^ (31 - i % 32) % 2 = 0 by omega]; rfl
/-! Rank -/
def rankS (m : List Int) (a : Int) : Int × Int := if a < 0 ∨ 32 * (m.length : Int) ≤ a then (0, 30) else (((cnt m (a.toNat + 1) : Nat) : Int), 0)
theorem rank_ev {m : List Int} (hm : W32 m) (hl : m.length ≤ 35184372087808) (a : Int) (ha0 : -9223372036854775808 ≤ a) (ha1 : a ≤ 9223372036854775807) : Ev (fun k => wire_Rank.f k m a) (rankS m a) := by
  unfold rankS
  by_cases h0 : a < 0
  · rw [if_pos (.inl h0)]
    refine Ev.of (k := 1) (wire_Rank.mono m a) ?_
    unfold wire_Rank.f
    rw [if_pos h0]
    simp only [wire_Rank.j0, if_true]
  · obtain ⟨i, rfl⟩ := Int.eq_ofNat_of_zero_le (show 0 ≤ a by omega)
    have e1 := tmod_nat i 32
    have e2 := tdiv_nat i 32
    rw [show (((32 : Nat) : Int)) = 32 from rfl] at e1 e2
    by_cases h1 : 32 * (m.length : Int) ≤ (i : Int)
    · rw [if_pos (.inr h1)]
      refine Ev.of (k := 1) (wire_Rank.mono m (i : Int)) ?_
      unfold wire_Rank.f
      rw [if_neg h0, e2, w64 (by omega) (by omega), decide_eq_true (by omega)]
      simp only [wire_Rank.j0, if_true]
    · rw [if_neg (by omega)]
      obtain ⟨K, hK⟩ : ∃ K, ∀ k, K ≤ k → wire_Ones.f k (m.take (i / 32)) = some ((onesN (m.take (i / 32)) : Nat) : Int) := ones_ev (fun x hx => hm x (List.mem_of_mem_take hx)) (by rw [List.length_take]; omega)
      refine Ev.of (k := K + 1) (wire_Rank.mono m (i : Int)) ?_
      have hw := w32_get hm (i / 32)
      have hle := onesN_le (m.take (i / 32))
      have hpl := pop_le 32 ((m.getD (i / 32) 0).toNat / 2 ^ (31 - i % 32))
      rw [List.length_take] at hle
      unfold wire_Rank.f
      rw [if_neg h0, e2, w64 (x := ((i / 32 : Nat) : Int)) (by omega) (by omega), decide_eq_false (by omega)]
      simp only [wire_Rank.j0, Bool.false_eq_true, if_false]
      rw [e1, e2, w64 (x := ((i / 32 : Nat) : Int)) (by omega) (by omega), w64 (x := 31 - ((i % 32 : Nat) : Int)) (by omega) (by omega), rd_nat, Int.toNat_natCast]
      rw [show (31 - ((i % 32 : Nat) : Int)) = ((31 - i % 32 : Nat) : Int) by omega, if_pos (by omega), if_pos (by omega), hK K (Nat.le_refl _), Option.bind_some, if_pos (by omega), if_pos (by omega)]
      rw [get_nat hm, shr_nat _ _ (by omega), ones32 _ (div_lt32 _ _ (by omega)), Option.bind_some, w64 (by omega) (by omega)]
      have hc := cnt_word m (i / 32) (i % 32 + 1) (by omega)
      rw [show 32 * (i / 32) + (i % 32 + 1) = i + 1 by omega, cnt_words m (i / 32) (by omega), show 32 - (i % 32 + 1) = 31 - i % 32 by omega] at hc
      rw [pop_shift _ (i % 32) (by omega) (by omega), Int.toNat_natCast, hc]
      rfl
theorem rrank_l0 {m : List Int} (hm : W32 m) (hl : m.length ≤ 35184372087808) (a : Nat) (ha : a < 32 * m.length) : ∀ d k i : Nat, i + d = a + 1 → d < k → turnpikeref13_Rank.l0 k m (a : Int) ((cnt m i : Nat) : Int) (i : Int) = some (((cnt m (a + 1) : Nat) : Int), 0) := by
  intro d
  induction d with
  | zero =>
    intro k i hi hk
    obtain ⟨k, rfl⟩ : ∃ m, k = m + 1 := ⟨k - 1, by omega⟩
    simp only [turnpikeref13_Rank.l0]
    rw [if_neg (by omega), show i = a + 1 by omega]
  | succ d ih =>
    intro k i hi hk
    obtain ⟨k, rfl⟩ : ∃ m, k = m + 1 := ⟨k - 1, by omega⟩
    have hc := cnt_le m i
    have hs := cnt_succ m i
    have e := ih k (i + 1) (by omega) (by omega)
    simp only [turnpikeref13_Rank.l0]
    rw [if_pos (by omega), is_some hm hl i (by omega), Option.bind_some, w64 (x := (i : Int) + 1) (by omega) (by omega), w64 (x := ((cnt m i : Nat) : Int) + 1) (by omega) (by omega)]
    rw [hs] at e
    by_cases h : bit m i = true
    · rw [if_pos h]
      rw [if_pos h] at e
      exact e
    · rw [if_neg h]
      rw [if_neg h] at e
      exact e
theorem rrank_ev {m : List Int} (hm : W32 m) (hl : m.length ≤ 35184372087808) (a : Int) (ha0 : -9223372036854775808 ≤ a) (ha1 : a ≤ 9223372036854775807) : Ev (fun k => turnpikeref13_Rank.f k m a) (rankS m a) := by
  unfold rankS
  by_cases h0 : a < 0
  · rw [if_pos (.inl h0)]
    refine Ev.of (k := 1) (turnpikeref13_Rank.mono m a) ?_
    unfold turnpikeref13_Rank.f
    rw [if_pos h0]
    simp only [turnpikeref13_Rank.j0, if_true]
  · obtain ⟨i, rfl⟩ := Int.eq_ofNat_of_zero_le (show 0 ≤ a by omega)
    by_cases h1 : 32 * (m.length : Int) ≤ (i : Int)
    · rw [if_pos (.inr h1)]
      refine Ev.of (k := 1) (turnpikeref13_Rank.mono m (i : Int)) ?_
      unfold turnpikeref13_Rank.f
      rw [if_neg h0, w64 (by omega) (by omega), decide_eq_true (by omega)]
      simp only [turnpikeref13_Rank.j0, if_true]
    · rw [if_neg (by omega)]
      refine Ev.of (k := i + 4) (turnpikeref13_Rank.mono m (i : Int)) ?_
      unfold turnpikeref13_Rank.f
      rw [if_neg h0, w64 (by omega) (by omega), decide_eq_false (by omega)]
      simp only [turnpikeref13_Rank.j0, Bool.false_eq_true, if_false]
      exact rrank_l0 hm hl i (by omega) (i + 1) _ 0 (by omega) (by omega)
/-! the document's Ones -/
theorem pop_pred : ∀ n v : Nat, 0 < v → v < 2 ^ n → pop n (v &&& (v - 1)) + 1 = pop n v := by
  intro n
  induction n with
  | zero => intro v h0 h1; simp at h1; omega
  | succ n ih =>
    intro v h0 h1
    simp only [pop]
    have hd : (v &&& (v - 1)) / 2 = (v / 2) &&& ((v - 1) / 2) := Nat.and_div_two
    have hm : (v &&& (v - 1)) % 2 = 0 := by
      have h2 : (v &&& (v - 1)) % 2 = (v % 2) &&& ((v - 1) % 2) := by
        have := @Nat.and_mod_two_pow v (v - 1) 1
        simpa using this
      rw [h2]
      rcases Nat.mod_two_eq_zero_or_one v with h | h
      · rw [h]; simp
      · rw [show (v - 1) % 2 = 0 by omega]; simp
    rw [hm, hd]
    rcases Nat.mod_two_eq_zero_or_one v with h | h
    · rw [show (v - 1) / 2 = v / 2 - 1 by omega, h]
      have := ih (v / 2) (by omega) (by rw [Nat.pow_succ] at h1; omega)
      omega
    · rw [show (v - 1) / 2 = v / 2 by omega, Nat.and_self, h]
      omega
theorem rones_l1 {m : List Int} (X : Nat → Option Int) (x4 : Int) (c : Nat) (hc : c ≤ 9223372036854775000)
    (r : Int) (B : Nat) (hnext : ∀ k, B ≤ k → turnpikeref13_Ones.l0 k m (c : Int) (wrap64 (x4 + 1)) = some r) : ∀ n v k : Nat, v < 4294967296 → pop 32 v = n → n ≤ c → B + n + 1 ≤ k → turnpikeref13_Ones.l1 k m ((c - n : Nat) : Int) x4 (v : Int) = some r := by
  intro n
  induction n with
  | zero =>
    intro v k hv hp hn hk
    obtain ⟨k, rfl⟩ : ∃ m, k = m + 1 := ⟨k - 1, by omega⟩
    have h0 : v = 0 := by
      rcases Nat.eq_zero_or_pos v with h | h
      · exact h
      · have := pop_pred 32 v h hv; omega
    subst h0
    simp only [turnpikeref13_Ones.l1]
    rw [if_neg (by omega)]
    exact hnext k (by omega)
  | succ n ih =>
    intro v k hv hp hn hk
    obtain ⟨k, rfl⟩ : ∃ m, k = m + 1 := ⟨k - 1, by omega⟩
    have h0 : 0 < v := by
      rcases Nat.eq_zero_or_pos v with h | h
      · rw [h, pop_zero] at hp; omega
      · exact h
    have hq := pop_pred 32 v h0 hv
    have e : Go.bits .and .u32 (v : Int) (((v : Int) - 1) % 4294967296) = ((v &&& (v - 1) : Nat) : Int) := by
      rw [show ((v : Int) - 1) % 4294967296 = ((v - 1 : Nat) : Int) by omega]
      exact (bits_nat .u32 32 (by decide) (fun n h0 h1 => by rw [IntKind.wrap_u32]; omega) v (v - 1) hv (by omega)).1
    simp only [turnpikeref13_Ones.l1]
    rw [if_pos (by omega), e, w64 (by omega) (by omega), show ((c - (n + 1) : Nat) : Int) + 1 = ((c - n : Nat) : Int) by omega]
    exact ih _ k (Nat.lt_of_le_of_lt Nat.and_le_left hv) (by omega) (by omega) (by omega)
theorem rones_l0 {m : List Int} (hm : W32 m) (hl : m.length ≤ 35184372087808) : ∀ d k i n : Nat, i + d = m.length → 34 * d < k → n ≤ 32 * i → turnpikeref13_Ones.l0 k m (n : Int) (i : Int) = some ((n + onesN (m.drop i) : Nat) : Int) := by
  intro d
  induction d with
  | zero =>
    intro k i n hi hk hn
    obtain ⟨k, rfl⟩ : ∃ m, k = m + 1 := ⟨k - 1, by omega⟩
    simp only [turnpikeref13_Ones.l0]
    rw [if_neg (by omega), List.drop_eq_nil_of_le (by omega)]
    rfl
  | succ d ih =>
    intro k i n hi hk hn
    obtain ⟨k, rfl⟩ : ∃ m, k = m + 1 := ⟨k - 1, by omega⟩
    have hp := pop_le 32 (m.getD i 0).toNat
    have hw := w32_get hm i
    simp only [turnpikeref13_Ones.l0]
    rw [if_pos (by omega), if_pos (by omega), rd_nat, get_nat hm]
    have := rones_l1 (m := m) (fun _ => none) (i : Int) (n + pop 32 (m.getD i 0).toNat) (by omega) ((n + onesN (m.drop i) : Nat) : Int) (34 * d + 1) (fun k' hk' => by
      rw [w64 (by omega) (by omega), show ((i : Int) + 1) = ((i + 1 : Nat) : Int) by omega, ih k' (i + 1) _ (by omega) (by omega) (by omega), onesN_drop m i (by omega), Nat.add_assoc]) (pop 32 (m.getD i 0).toNat) (m.getD i 0).toNat k (by omega) rfl (by omega) (by omega)
    rw [show n + pop 32 (m.getD i 0).toNat - pop 32 (m.getD i 0).toNat = n by omega] at this
    exact this
theorem rones_ev {m : List Int} (hm : W32 m) (hl : m.length ≤ 35184372087808) : Ev (fun k => turnpikeref13_Ones.f k m) ((onesN m : Nat) : Int) := by
  refine Ev.of (k := 34 * m.length + 1) (turnpikeref13_Ones.mono m) ?_
  unfold turnpikeref13_Ones.f
  have := rones_l0 hm hl m.length (34 * m.length + 1) 0 0 (by omega) (by omega) (by omega)
  simpa using this
end Go.Proofs.Ytpehkbkbfpbolaa.Bm
