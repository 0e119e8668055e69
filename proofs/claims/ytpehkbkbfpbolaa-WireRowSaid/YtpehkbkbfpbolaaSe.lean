/- What LeadingZeros32 and Select, of the code and of the document, come to. -/
import Derived.Test.YtpehkbkbfpbolaaBm
import Derived.Test.YtpehkbkbfpbolaaPWx32
import Derived.Test.YtpehkbkbfpbolaaPWx33
import Derived.Test.YtpehkbkbfpbolaaPWx34
import Derived.Test.YtpehkbkbfpbolaaPWx37
set_option linter.unusedSimpArgs false
set_option linter.unusedVariables false
namespace Go.Proofs.Ytpehkbkbfpbolaa.Se
open Go.RowKit Go.Proofs.Ytpehkbkbfpbolaa.PW Go.Proofs.Ytpehkbkbfpbolaa.Pl Go.Proofs.Ytpehkbkbfpbolaa.Fd Go.Proofs.Ytpehkbkbfpbolaa.Bm Go.Proofs.YtpehkbkbfpbolaaW.PrintWords Go.Proofs.YtpehkbkbfpbolaaW.PrintLast Go.Proofs.YtpehkbkbfpbolaaW.PrintMore
def tabL : ByteArray := ⟨#[0, 1, 2, 2, 3, 3, 3, 3, 4, 4, 4, 4, 4, 4, 4, 4, 5, 5, 5, 5, 5, 5, 5, 5, 5, 5, 5, 5, 5, 5, 5, 5, 6, 6, 6, 6, 6, 6, 6, 6, 6, 6, 6, 6, 6, 6, 6, 6, 6, 6, 6, 6, 6, 6, 6, 6, 6, 6, 6, 6, 6, 6, 6, 6, 7, 7, 7, 7, 7, 7, 7, 7, 7, 7, 7, 7, 7, 7, 7, 7, 7, 7, 7, 7, 7, 7, 7, 7, 7, 7, 7, 7, 7, 7, 7, 7, 7, 7, 7, 7, 7, 7, 7, 7, 7, 7, 7, 7, 7, 7, 7, 7, 7, 7, 7, 7, 7, 7, 7, 7, 7, 7, 7, 7, 7, 7, 7, 7, 8, 8, 8, 8, 8, 8, 8, 8, 8, 8, 8, 8, 8, 8, 8, 8, 8, 8, 8, 8, 8, 8, 8, 8, 8, 8, 8, 8, 8, 8, 8, 8, 8, 8, 8, 8, 8, 8, 8, 8, 8, 8, 8, 8, 8, 8, 8, 8, 8, 8, 8, 8, 8, 8, 8, 8, 8, 8, 8, 8, 8, 8, 8, 8, 8, 8, 8, 8, 8, 8, 8, 8, 8, 8, 8, 8, 8, 8, 8, 8, 8, 8, 8, 8, 8, 8, 8, 8, 8, 8, 8, 8, 8, 8, 8, 8, 8, 8, 8, 8, 8, 8, 8, 8, 8, 8, 8, 8, 8, 8, 8, 8, 8, 8, 8, 8, 8, 8, 8, 8, 8, 8, 8, 8, 8, 8, 8, 8]⟩
theorem tabL_log : ∀ b : Nat, b < 256 → 0 < b → bt tabL (b : Int) = (Nat.log2 b + 1 : Nat) := by decide +kernel
theorem lenf (a0 : Int) : bits_Len32.f a0 = if a0 ≥ 65536 then (if (a0 / 65536) ≥ 256 then (if 0 ≤ (((a0 / 65536) / 256) % 256) then (if (((a0 / 65536) / 256) % 256) < 256 then (some (wrap64 ((16 + 8) + (wrap64 (bt tabL (((a0 / 65536) / 256) % 256)))))) else (none)) else (none)) else (if 0 ≤ ((a0 / 65536) % 256) then (if ((a0 / 65536) % 256) < 256 then (some (wrap64 (16 + (wrap64 (bt tabL ((a0 / 65536) % 256)))))) else (none)) else (none))) else (if a0 ≥ 256 then (if 0 ≤ ((a0 / 256) % 256) then (if ((a0 / 256) % 256) < 256 then (some (wrap64 ((0 + 8) + (wrap64 (bt tabL ((a0 / 256) % 256)))))) else (none)) else (none)) else (if 0 ≤ ((a0) % 256) then (if ((a0) % 256) < 256 then (some (wrap64 (0 + (wrap64 (bt tabL ((a0) % 256)))))) else (none)) else (none))) := rfl
theorem wn {n : Nat} (h : n ≤ 9223372036854775807) : wrap64 (n : Int) = n := w64 (by omega) (by omega)
theorem log2_up (v s : Nat) (h : 0 < v / 2 ^ s) : Nat.log2 v = s + Nat.log2 (v / 2 ^ s) := by
  have hv : v ≠ 0 := by intro e; rw [e, Nat.zero_div] at h; omega
  have hb : v / 2 ^ s ≠ 0 := by omega
  rw [Nat.log2_eq_iff hv]
  have h1 := (Nat.log2_eq_iff hb).1 rfl
  constructor
  · rw [Nat.pow_add, Nat.mul_comm]
    exact (Nat.le_div_iff_mul_le (Nat.two_pow_pos s)).1 h1.1
  · rw [Nat.add_assoc, Nat.pow_add, Nat.mul_comm]
    exact (Nat.div_lt_iff_lt_mul (Nat.two_pow_pos s)).1 h1.2
theorem log2_small {b : Nat} (h : b < 256) : Nat.log2 b ≤ 7 := by
  rcases Nat.eq_zero_or_pos b with h0 | h0
  · subst h0; decide
  · have := (Nat.log2_lt (by omega : b ≠ 0) (k := 8)).2 h
    omega
theorem len32 (v : Nat) (h : v < 4294967296) (h0 : 0 < v) : bits_Len32.f (v : Int) = some ((Nat.log2 v + 1 : Nat) : Int) := by
  have e1 : (v : Int) / 65536 = ((v / 65536 : Nat) : Int) := by omega
  have e2 : ((v / 65536 : Nat) : Int) / 256 % 256 = ((v / 16777216 : Nat) : Int) := by omega
  have e4 : (v : Int) / 256 % 256 = ((v / 256 % 256 : Nat) : Int) := by omega
  have e5 : (v : Int) % 256 = ((v % 256 : Nat) : Int) := by omega
  have e6 : ((v / 65536 : Nat) : Int) % 256 = ((v / 65536 % 256 : Nat) : Int) := by omega
  rw [lenf, e1, e2, e4, e5, e6]
  by_cases c1 : (v : Int) ≥ 65536
  · rw [if_pos c1]
    by_cases c2 : ((v / 65536 : Nat) : Int) ≥ 256
    · have hl := log2_small (show v / 16777216 < 256 by omega)
      have hu := log2_up v 24 (by rw [show (2 : Nat) ^ 24 = 16777216 from rfl]; omega)
      rw [show (2 : Nat) ^ 24 = 16777216 from rfl] at hu
      rw [if_pos c2, if_pos (by omega), if_pos (by omega), tabL_log _ (by omega) (by omega), hu]
      rw [wn (by omega), w64 (by omega) (by omega)]
      exact congrArg some (by omega)
    · have hm : v / 65536 % 256 = v / 65536 := by omega
      have hl := log2_small (show v / 65536 < 256 by omega)
      have hu := log2_up v 16 (by rw [show (2 : Nat) ^ 16 = 65536 from rfl]; omega)
      rw [show (2 : Nat) ^ 16 = 65536 from rfl] at hu
      rw [if_neg c2, if_pos (by omega), if_pos (by omega), hm, tabL_log _ (by omega) (by omega), hu]
      rw [wn (by omega), w64 (by omega) (by omega)]
      exact congrArg some (by omega)
  · rw [if_neg c1]
    by_cases c2 : (v : Int) ≥ 256
    · have hm : v / 256 % 256 = v / 256 := by omega
      have hl := log2_small (show v / 256 < 256 by omega)
      have hu := log2_up v 8 (by rw [show (2 : Nat) ^ 8 = 256 from rfl]; omega)
      rw [show (2 : Nat) ^ 8 = 256 from rfl] at hu
      rw [if_pos c2, if_pos (by omega), if_pos (by omega), hm, tabL_log _ (by omega) (by omega), hu]
      rw [wn (by omega), w64 (by omega) (by omega)]
      exact congrArg some (by omega)
    · have hm : v % 256 = v := by omega
      have hl := log2_small (show v < 256 by omega)
      rw [if_neg c2, if_pos (by omega), if_pos (by omega), hm, tabL_log _ (by omega) (by omega)]
      rw [wn (by omega), w64 (by omega) (by omega)]
      exact congrArg some (by omega)
theorem lz32 (v : Nat) (h : v < 4294967296) (h0 : 0 < v) : bits_LeadingZeros32.f (v : Int) = some ((31 - Nat.log2 v : Nat) : Int) := by
  have hl := (Nat.log2_lt (by omega : v ≠ 0) (k := 32)).2 h
  unfold bits_LeadingZeros32.f
  rw [len32 v h h0, Option.bind_some, w64 (by omega) (by omega)]
  exact congrArg some (by omega)
theorem pop_eq_zero : ∀ n x : Nat, x < 2 ^ n → pop n x = 0 → x = 0 := by
  intro n
  induction n with
  | zero => intro x h _; simp at h; omega
  | succ n ih =>
    intro x h hp
    simp only [pop] at hp
    have := ih (x / 2) (by rw [Nat.pow_succ] at h; omega) (by omega)
    omega
theorem pop_one (n : Nat) (h : 0 < n) : pop n 1 = 1 := by
  obtain ⟨n, rfl⟩ : ∃ m, n = m + 1 := ⟨n - 1, by omega⟩
  simp [pop, pop_zero]
theorem pop_top (s p y : Nat) (hs : s < p) (hy : y < 2 ^ s) : pop p (2 ^ s + y) = pop p y + 1 := by
  have hp : p = s + (p - s) := by omega
  rw [hp, pop_add, pop_add]
  have e1 : (2 ^ s + y) / 2 ^ s = 1 := by
    rw [Nat.add_div_left _ (Nat.two_pow_pos s), Nat.div_eq_of_lt hy]
  have e2 : pop s (2 ^ s + y) = pop s y := by
    rw [← pop_mod, Nat.add_mod_left, pop_mod]
  rw [e1, e2, Nat.div_eq_of_lt hy, pop_zero, pop_one _ (by omega)]
theorem shl_nat (t : Nat) (ht : t ≤ 31) : shl .u32 1 (t : Int) = ((2 ^ t : Nat) : Int) := by
  unfold shl
  have hlt : (2 : Nat) ^ t < 4294967296 := Nat.lt_of_le_of_lt (Nat.pow_le_pow_right (by decide) ht) (by decide)
  rw [show (IntKind.u32).bits = 32 from rfl, Int.toNat_natCast, Nat.min_eq_left (by omega), IntKind.wrap_u32, Int.one_mul]
  have : ((2 : Int) ^ t) = ((2 ^ t : Nat) : Int) := by push_cast; rfl
  rw [this]
  clear this
  generalize (2 : Nat) ^ t = x at hlt ⊢
  omega
theorem andNot_top (t w' : Nat) (ht : t ≤ 31) (hw : w' < 2 ^ t) : Go.bits .andNot .u32 ((2 ^ t + w' : Nat) : Int) ((2 ^ t : Nat) : Int) = (w' : Int) := by
  have hlt : (2 : Nat) ^ t < 2 ^ 32 := Nat.pow_lt_pow_right (by decide) (by omega)
  have hle : (2 : Nat) ^ t + 2 ^ t ≤ 2 ^ 32 := by rw [← Nat.two_mul, Nat.mul_comm, ← Nat.pow_succ]; exact Nat.pow_le_pow_right (by decide) (by omega)
  have hn : ((BitVec.ofInt 32 ((2 ^ t + w' : Nat) : Int)) &&& ~~~ (BitVec.ofInt 32 ((2 ^ t : Nat) : Int))).toNat = w' := by
    rw [BitVec.ofInt_natCast, BitVec.ofInt_natCast, BitVec.toNat_and, BitVec.toNat_not, BitVec.toNat_ofNat, BitVec.toNat_ofNat, Nat.mod_eq_of_lt (by omega), Nat.mod_eq_of_lt hlt]
    apply Nat.eq_of_testBit_eq
    intro i
    rw [Nat.testBit_and, show 2 ^ 32 - 1 - 2 ^ t = 2 ^ 32 - (2 ^ t + 1) by omega, Nat.testBit_two_pow_sub_succ hlt, Nat.testBit_two_pow]
    rcases Nat.lt_trichotomy i t with h | h | h
    · rw [Nat.testBit_two_pow_add_gt h]
      simp [show ¬ t = i by omega, show i < 32 by omega]
    · subst h
      simp [Nat.testBit_lt_two_pow hw]
    · have h1 : (2 ^ t + w').testBit i = false := Nat.testBit_lt_two_pow (Nat.lt_of_lt_of_le (show 2 ^ t + w' < 2 ^ (t + 1) by rw [Nat.pow_succ]; omega) (Nat.pow_le_pow_right (by decide) h))
      have h2 : w'.testBit i = false := Nat.testBit_lt_two_pow (Nat.lt_trans hw (Nat.pow_lt_pow_right (by decide) h))
      rw [h1, h2]; rfl
  show IntKind.u32.wrap ((((BitVec.ofInt 32 ((2 ^ t + w' : Nat) : Int)) &&& ~~~ (BitVec.ofInt 32 ((2 ^ t : Nat) : Int))).toNat : Nat) : Int) = _
  rw [hn, IntKind.wrap_u32]
  have : (2 : Nat) ^ 32 = 4294967296 := rfl
  omega
theorem sel_l1 (j : Nat) (hj : j ≤ 35184372087808) : ∀ k' w p fuel : Nat, w < 4294967296 → p ≤ 31 → w.testBit (31 - p) = true → pop p (w / 2 ^ (32 - p)) = k' → k' < fuel →
    wire_Select.l1 fuel (k' : Int) (j : Int) (w : Int) = some (((32 * j + p : Nat) : Int), 0) := by
  intro k'
  induction k' with
  | zero =>
    intro w p fuel hw hp hb hc hf
    obtain ⟨fuel, rfl⟩ : ∃ m, fuel = m + 1 := ⟨fuel - 1, by omega⟩
    have hge := Nat.ge_two_pow_of_testBit hb
    have hpos : 0 < w := Nat.lt_of_lt_of_le (Nat.two_pow_pos _) hge
    have hz := pop_eq_zero p (w / 2 ^ (32 - p)) ((Nat.div_lt_iff_lt_mul (Nat.two_pow_pos _)).2 (by rw [← Nat.pow_add, show p + (32 - p) = 32 by omega]; exact hw)) hc
    have hlt : w < 2 ^ (32 - p) := (Nat.div_eq_zero_iff_lt (Nat.two_pow_pos _)).1 hz
    have hl : Nat.log2 w = 31 - p := (Nat.log2_eq_iff (by omega)).2 ⟨hge, by rw [show 31 - p + 1 = 32 - p by omega]; exact hlt⟩
    simp only [wire_Select.l1]
    rw [if_neg (by omega), lz32 w hw hpos, hl, Option.bind_some, w64 (x := 32 * (j : Int)) (by omega) (by omega), w64 (by omega) (by omega)]
    refine congrArg some ?_
    rw [show 32 * (j : Int) + ((31 - (31 - p) : Nat) : Int) = ((32 * j + p : Nat) : Int) by omega]
  | succ k' ih =>
    intro w p fuel hw hp hb hc hf
    obtain ⟨fuel, rfl⟩ : ∃ m, fuel = m + 1 := ⟨fuel - 1, by omega⟩
    have hge := Nat.ge_two_pow_of_testBit hb
    have hpos : 0 < w := Nat.lt_of_lt_of_le (Nat.two_pow_pos _) hge
    have hkp := pop_le p (w / 2 ^ (32 - p))
    rw [hc] at hkp
    obtain ⟨t, ht⟩ : ∃ t, t = Nat.log2 w := ⟨_, rfl⟩
    have hl := (Nat.log2_eq_iff (show w ≠ 0 by omega)).1 ht.symm
    have ht31 : t ≤ 31 := by
      have := (Nat.log2_lt (by omega : w ≠ 0) (k := 32)).2 hw
      omega
    obtain ⟨w', hw'⟩ : ∃ w', w = 2 ^ t + w' := ⟨w - 2 ^ t, by omega⟩
    have hw2 : w' < 2 ^ t := by have := hl.2; rw [Nat.pow_succ] at this; omega
    have hpt : 32 - p ≤ t := by
      rcases Nat.lt_or_ge t (32 - p) with h | h
      · have : w / 2 ^ (32 - p) = 0 := Nat.div_eq_of_lt (Nat.lt_of_lt_of_le hl.2 (Nat.pow_le_pow_right (by decide) h))
        rw [this, pop_zero] at hc
        omega
      · exact h
    have hq : w / 2 ^ (32 - p) = 2 ^ (t - (32 - p)) + w' / 2 ^ (32 - p) := by
      rw [hw', show (2 : Nat) ^ t = 2 ^ (t - (32 - p)) * 2 ^ (32 - p) by rw [← Nat.pow_add]; congr 1; omega, Nat.add_comm, Nat.add_mul_div_right _ _ (Nat.two_pow_pos _), Nat.add_comm]
    have hy : w' / 2 ^ (32 - p) < 2 ^ (t - (32 - p)) := (Nat.div_lt_iff_lt_mul (Nat.two_pow_pos _)).2 (by rw [← Nat.pow_add, show t - (32 - p) + (32 - p) = t by omega]; exact hw2)
    rw [hq, pop_top _ p _ (by omega) hy] at hc
    have hb' : w'.testBit (31 - p) = true := by
      rw [hw', Nat.testBit_two_pow_add_gt (by omega)] at hb
      exact hb
    simp only [wire_Select.l1]
    rw [if_pos (by omega), lz32 w hw hpos, ← ht, Option.bind_some, w64 (x := 31 - ((31 - t : Nat) : Int)) (by omega) (by omega), w64 (x := ((k' + 1 : Nat) : Int) - 1) (by omega) (by omega), if_pos (by omega)]
    rw [show (31 - ((31 - t : Nat) : Int)) = (t : Int) by omega, shl_nat t ht31, hw', andNot_top t w' ht31 hw2, show (((k' + 1 : Nat) : Int) - 1) = (k' : Int) by omega]
    exact ih w' p fuel (by omega) hp hb' (by omega) (by omega)
theorem sel_found {m : List Int} (hm : W32 m) (hl : m.length ≤ 35184372087808) (p : Nat) (hp : p < 32 * m.length) (hb : bit m p = true) : Ev (fun k => wire_Select.f k m ((cnt m p : Nat) : Int)) ((p : Int), 0) := by
  refine Ev.of (k := m.length + 40) (wire_Select.mono m _) ?_
  unfold wire_Select.f
  rw [if_neg (by omega)]
  have key : ∀ d fuel j : Nat, j + d = p / 32 → d + 34 < fuel → wire_Select.l0 fuel ((cnt m p - cnt m (32 * j) : Nat) : Int) m (m.length : Int) (j : Int) = some ((p : Int), 0) := by
    intro d
    induction d with
    | zero =>
      intro fuel j hj hf
      obtain ⟨fuel, rfl⟩ : ∃ m, fuel = m + 1 := ⟨fuel - 1, by omega⟩
      have hw := w32_get hm j
      have h1 := cnt_word m j (p % 32) (by omega)
      have h2 := cnt_word m j 32 (by omega)
      rw [show 32 * j + p % 32 = p by omega] at h1
      rw [Nat.sub_self, Nat.pow_zero, Nat.div_one] at h2
      have h3 := cnt_mono m (show p + 1 ≤ 32 * j + 32 by omega)
      rw [cnt_succ, if_pos hb] at h3
      have hpl := pop_le (p % 32) ((m.getD j 0).toNat / 2 ^ (32 - p % 32))
      simp only [wire_Select.l0]
      rw [if_pos (by omega), if_pos (by omega), if_pos (by omega), rd_nat, ones32_get hm j, Option.bind_some, if_neg (by omega), get_nat hm]
      have hb' := hb
      unfold bit at hb'
      rw [show p / 32 = j by omega] at hb'
      rw [show cnt m p - cnt m (32 * j) = pop (p % 32) ((m.getD j 0).toNat / 2 ^ (32 - p % 32)) by omega]
      rw [sel_l1 j (by omega) _ _ (p % 32) fuel (by omega) (by omega) hb' rfl (by omega), show 32 * j + p % 32 = p by omega]
    | succ d ih =>
      intro fuel j hj hf
      obtain ⟨fuel, rfl⟩ : ∃ m, fuel = m + 1 := ⟨fuel - 1, by omega⟩
      have h2 := cnt_word m j 32 (by omega)
      rw [Nat.sub_self, Nat.pow_zero, Nat.div_one, show 32 * j + 32 = 32 * (j + 1) by omega] at h2
      have h3 := cnt_mono m (show 32 * (j + 1) ≤ p by omega)
      have h4 := cnt_le m p
      simp only [wire_Select.l0]
      rw [if_pos (by omega), if_pos (by omega), if_pos (by omega), rd_nat, ones32_get hm j, Option.bind_some, if_pos (by omega), w64 (by omega) (by omega), w64 (by omega) (by omega)]
      rw [show ((cnt m p - cnt m (32 * j) : Nat) : Int) - ((pop 32 (m.getD j 0).toNat : Nat) : Int) = ((cnt m p - cnt m (32 * (j + 1)) : Nat) : Int) by omega, show (j : Int) + 1 = ((j + 1 : Nat) : Int) by omega]
      exact ih fuel (j + 1) (by omega) (by omega)
  have := key (p / 32) (m.length + 40) 0 (by omega) (by omega)
  simpa [cnt] using this
theorem sel_none {m : List Int} (hm : W32 m) (hl : m.length ≤ 35184372087808) (a : Nat) (ha : onesN m ≤ a) (ha1 : a ≤ 9223372036854775807) : Ev (fun k => wire_Select.f k m (a : Int)) (0, 2) := by
  refine Ev.of (k := m.length + 1) (wire_Select.mono m _) ?_
  unfold wire_Select.f
  rw [if_neg (by omega)]
  rw [← cnt_all] at ha
  have key : ∀ d fuel j : Nat, j + d = m.length → d < fuel → wire_Select.l0 fuel ((a - cnt m (32 * j) : Nat) : Int) m (m.length : Int) (j : Int) = some (0, 2) := by
    intro d
    induction d with
    | zero =>
      intro fuel j hj hf
      obtain ⟨fuel, rfl⟩ : ∃ m, fuel = m + 1 := ⟨fuel - 1, by omega⟩
      simp only [wire_Select.l0]
      rw [if_neg (by omega)]
    | succ d ih =>
      intro fuel j hj hf
      obtain ⟨fuel, rfl⟩ : ∃ m, fuel = m + 1 := ⟨fuel - 1, by omega⟩
      have h2 := cnt_word m j 32 (by omega)
      rw [Nat.sub_self, Nat.pow_zero, Nat.div_one, show 32 * j + 32 = 32 * (j + 1) by omega] at h2
      have h3 := cnt_mono m (show 32 * (j + 1) ≤ 32 * m.length by omega)
      simp only [wire_Select.l0]
      rw [if_pos (by omega), if_pos (by omega), if_pos (by omega), rd_nat, ones32_get hm j, Option.bind_some, if_pos (by omega), w64 (by omega) (by omega), w64 (by omega) (by omega)]
      rw [show ((a - cnt m (32 * j) : Nat) : Int) - ((pop 32 (m.getD j 0).toNat : Nat) : Int) = ((a - cnt m (32 * (j + 1)) : Nat) : Int) by omega, show (j : Int) + 1 = ((j + 1 : Nat) : Int) by omega]
      exact ih fuel (j + 1) (by omega) (by omega)
  have := key m.length (m.length + 1) 0 (by omega) (by omega)
  simpa [cnt] using this
theorem rsel_found {m : List Int} (hm : W32 m) (hl : m.length ≤ 35184372087808) (p : Nat) (hp : p < 32 * m.length) (hb : bit m p = true) : Ev (fun k => turnpikeref13_Select.f k m ((cnt m p : Nat) : Int)) ((p : Int), 0) := by
  refine Ev.of (k := p + 2) (turnpikeref13_Select.mono m _) ?_
  unfold turnpikeref13_Select.f
  rw [if_neg (by omega)]
  have key : ∀ d fuel i : Nat, i + d = p → d < fuel → turnpikeref13_Select.l0 fuel m ((cnt m p - cnt m i : Nat) : Int) (i : Int) = some ((p : Int), 0) := by
    intro d
    induction d with
    | zero =>
      intro fuel i hi hf
      obtain ⟨fuel, rfl⟩ : ∃ m, fuel = m + 1 := ⟨fuel - 1, by omega⟩
      obtain rfl : i = p := by omega
      simp only [turnpikeref13_Select.l0]
      rw [w64 (x := 32 * (m.length : Int)) (by omega) (by omega), if_pos (by omega), is_some hm hl i hp, Option.bind_some, hb, if_pos rfl, if_pos (by omega)]
    | succ d ih =>
      intro fuel i hi hf
      obtain ⟨fuel, rfl⟩ : ∃ m, fuel = m + 1 := ⟨fuel - 1, by omega⟩
      have h3 := cnt_mono m (show i + 1 ≤ p by omega)
      have h4 := cnt_le m p
      rw [cnt_succ] at h3
      have e := ih fuel (i + 1) (by omega) (by omega)
      rw [cnt_succ] at e
      simp only [turnpikeref13_Select.l0]
      rw [w64 (x := 32 * (m.length : Int)) (by omega) (by omega), if_pos (by omega), is_some hm hl i (by omega), Option.bind_some, w64 (x := (i : Int) + 1) (by omega) (by omega)]
      by_cases h : bit m i = true
      · rw [if_pos h] at h3 e
        rw [if_pos h, if_neg (by omega), w64 (by omega) (by omega), show ((cnt m p - cnt m i : Nat) : Int) - 1 = ((cnt m p - (cnt m i + 1) : Nat) : Int) by omega]
        exact e
      · rw [if_neg h] at h3 e
        rw [if_neg h]
        exact e
  have := key p (p + 2) 0 (by omega) (by omega)
  simpa [cnt] using this
theorem rsel_none {m : List Int} (hm : W32 m) (hl : m.length ≤ 35184372087808) (a : Nat) (ha : onesN m ≤ a) (ha1 : a ≤ 9223372036854775807) : Ev (fun k => turnpikeref13_Select.f k m (a : Int)) (0, 2) := by
  refine Ev.of (k := 32 * m.length + 1) (turnpikeref13_Select.mono m _) ?_
  unfold turnpikeref13_Select.f
  rw [if_neg (by omega)]
  rw [← cnt_all] at ha
  have key : ∀ d fuel i : Nat, i + d = 32 * m.length → d < fuel → turnpikeref13_Select.l0 fuel m ((a - cnt m i : Nat) : Int) (i : Int) = some (0, 2) := by
    intro d
    induction d with
    | zero =>
      intro fuel i hi hf
      obtain ⟨fuel, rfl⟩ : ∃ m, fuel = m + 1 := ⟨fuel - 1, by omega⟩
      simp only [turnpikeref13_Select.l0]
      rw [w64 (x := 32 * (m.length : Int)) (by omega) (by omega), if_neg (by omega)]
    | succ d ih =>
      intro fuel i hi hf
      obtain ⟨fuel, rfl⟩ : ∃ m, fuel = m + 1 := ⟨fuel - 1, by omega⟩
      have h3 := cnt_mono m (show i + 1 ≤ 32 * m.length by omega)
      rw [cnt_succ] at h3
      have e := ih fuel (i + 1) (by omega) (by omega)
      rw [cnt_succ] at e
      simp only [turnpikeref13_Select.l0]
      rw [w64 (x := 32 * (m.length : Int)) (by omega) (by omega), if_pos (by omega), is_some hm hl i (by omega), Option.bind_some, w64 (x := (i : Int) + 1) (by omega) (by omega)]
      by_cases h : bit m i = true
      · rw [if_pos h] at h3 e
        rw [if_pos h, if_neg (by omega), w64 (by omega) (by omega), show ((a - cnt m i : Nat) : Int) - 1 = ((a - (cnt m i + 1) : Nat) : Int) by omega]
        exact e
      · rw [if_neg h] at h3 e
        rw [if_neg h]
        exact e
  have := key (32 * m.length) (32 * m.length + 1) 0 (by omega) (by omega)
  simpa [cnt] using this
theorem place_of (m : List Int) (a : Nat) : ∀ n, a < cnt m n → ∃ p, p < n ∧ bit m p = true ∧ cnt m p = a := by
  intro n
  induction n with
  | zero => intro h; simp [cnt] at h
  | succ n ih =>
    intro h
    rw [cnt_succ] at h
    rcases Nat.lt_or_ge a (cnt m n) with h1 | h1
    · obtain ⟨p, h2, h3, h4⟩ := ih h1
      exact ⟨p, by omega, h3, h4⟩
    · by_cases hb : bit m n = true
      · rw [if_pos hb] at h
        exact ⟨n, by omega, hb, by omega⟩
      · rw [if_neg hb] at h
        omega
/-- Both Selects tell the same. -/
theorem select_both {m : List Int} (hm : W32 m) (hl : m.length ≤ 35184372087808) (a : Int) (ha1 : a ≤ 9223372036854775807) : ∃ r, Ev (fun k => wire_Select.f k m a) r ∧ Ev (fun k => turnpikeref13_Select.f k m a) r := by
  by_cases h0 : a < 0
  · refine ⟨(0, 2), Ev.of (k := 0) (wire_Select.mono m a) ?_, Ev.of (k := 0) (turnpikeref13_Select.mono m a) ?_⟩
    · unfold wire_Select.f; rw [if_pos h0]
    · unfold turnpikeref13_Select.f; rw [if_pos h0]
  · obtain ⟨n, rfl⟩ := Int.eq_ofNat_of_zero_le (show 0 ≤ a by omega)
    rcases Nat.lt_or_ge n (onesN m) with h | h
    · rw [← cnt_all] at h
      obtain ⟨p, h1, h2, h3⟩ := place_of m n _ h
      rw [← h3]
      exact ⟨_, sel_found hm hl p h1 h2, rsel_found hm hl p h1 h2⟩
    · exact ⟨_, sel_none hm hl n h (by omega), rsel_none hm hl n h (by omega)⟩
end Go.Proofs.Ytpehkbkbfpbolaa.Se
