/- A bit turned gives another sum; the sums of two parts, joined, are the sum of the whole. -/
import Derived.Test.YtpehkbkbfpbolaaCr
import Derived.Test.YtpehkbkbfpbolaaPWx27
import Derived.Test.YtpehkbkbfpbolaaWTurn
set_option linter.unusedSimpArgs false
set_option linter.unusedVariables false
namespace Go.Proofs.Ytpehkbkbfpbolaa.Tj
open Go.RowKit Go.Proofs.Ytpehkbkbfpbolaa.PW Go.Proofs.Ytpehkbkbfpbolaa.Pl Go.Proofs.Ytpehkbkbfpbolaa.Cr Go.Proofs.YtpehkbkbfpbolaaW.PrintWords Go.Proofs.YtpehkbkbfpbolaaW.PrintLast
/-! times -/
def e31 : V := 2147483648#32
def tm : Nat → V → V → V → V
  | 0, _, _, p => p
  | n + 1, a, b, p => tm n a (S b) (p ^^^ (if a.getLsbD n then b else 0#32))
theorem x0 (a : V) : a ^^^ 0#32 = a := by simp
theorem zx (a : V) : 0#32 ^^^ a = a := by simp
theorem xx (a : V) : a ^^^ a = 0#32 := by simp
theorem xlc (a b c : V) : a ^^^ (b ^^^ c) = b ^^^ (a ^^^ c) := by rw [← BitVec.xor_assoc, BitVec.xor_comm a, BitVec.xor_assoc]
theorem xca (a b : V) : a ^^^ (a ^^^ b) = b := by rw [← BitVec.xor_assoc, xx, zx]
theorem S0 : S 0#32 = 0#32 := by decide
theorem tm_p : ∀ (n : Nat) (a b p q : V), tm n a b (p ^^^ q) = tm n a b p ^^^ q
  | 0, _, _, _, _ => rfl
  | n + 1, a, b, p, q => by
    simp only [tm]
    rw [show p ^^^ q ^^^ (if a.getLsbD n then b else 0#32) = (p ^^^ (if a.getLsbD n then b else 0#32)) ^^^ q by rw [BitVec.xor_assoc, BitVec.xor_comm q, ← BitVec.xor_assoc]]
    exact tm_p n a (S b) _ q
def T (a b : V) : V := tm 32 a b 0#32
theorem tm_0 (n : Nat) (a b p : V) : tm n a b p = tm n a b 0#32 ^^^ p := by
  conv => lhs; rw [← zx p]
  exact tm_p n a b _ p
theorem tm_xa : ∀ (n : Nat) (a a' b : V), tm n (a ^^^ a') b 0#32 = tm n a b 0#32 ^^^ tm n a' b 0#32
  | 0, _, _, _ => by simp [tm]
  | n + 1, a, a', b => by
    simp only [tm]
    rw [tm_0 n (a ^^^ a'), tm_0 n a, tm_0 n a', tm_xa n a a' (S b), BitVec.getLsbD_xor, zx, zx, zx]
    cases a.getLsbD n <;> cases a'.getLsbD n <;> simp [BitVec.xor_assoc, BitVec.xor_comm, xlc, xca]
theorem ite_S (c : Bool) (b : V) : S (if c then b else 0#32) = if c then S b else 0#32 := by
  cases c <;> simp [S0]
theorem tm_S : ∀ (n : Nat) (a b : V), tm n a (S b) 0#32 = S (tm n a b 0#32)
  | 0, _, _ => S0.symm
  | n + 1, a, b => by
    simp only [tm]
    rw [tm_0 n a (S (S b)), tm_0 n a (S b), tm_S n a (S b), S_xor, zx, zx, ite_S]
theorem tm_xb : ∀ (n : Nat) (a b b' : V), tm n a (b ^^^ b') 0#32 = tm n a b 0#32 ^^^ tm n a b' 0#32
  | 0, _, _, _ => by simp [tm]
  | n + 1, a, b, b' => by
    simp only [tm]
    rw [tm_0 n a (S (b ^^^ b')), tm_0 n a (S b), tm_0 n a (S b'), S_xor, tm_xb n a, zx, zx, zx]
    cases a.getLsbD n <;> simp [BitVec.xor_assoc, BitVec.xor_comm, xlc, xca]
/-- One place lower. -/
theorem tm_shift : ∀ (n : Nat) (a b : V), tm n (a >>> 1) b 0#32 ^^^ (if a.getLsbD 0 then Sn n b else 0#32) = tm (n + 1) a b 0#32
  | 0, a, b => by simp [tm, Sn]
  | n + 1, a, b => by
    have ih := tm_shift n a (S b)
    have e : Sn n (S b) = Sn (n + 1) b := by
      have := Sn_add n 1 b
      simpa [Sn] using this.symm
    rw [e] at ih
    show tm n (a >>> 1) (S b) (0#32 ^^^ (if (a >>> 1).getLsbD n then b else 0#32)) ^^^ _ = tm (n + 1) a (S b) (0#32 ^^^ (if a.getLsbD (n + 1) then b else 0#32))
    rw [tm_0 n, tm_0 (n + 1), ← ih, BitVec.getLsbD_ushiftRight, Nat.add_comm 1 n, zx]
    simp only [BitVec.xor_assoc, BitVec.xor_comm, xlc]
/-! every word is made of single bits, and a single bit of the highest one -/
def lowB (b : V) : Nat → V
  | 0 => 0#32
  | n + 1 => lowB b n ^^^ (if b.getLsbD n then BitVec.twoPow 32 n else 0#32)
theorem lowB_bit (b : V) : ∀ (n i : Nat), n ≤ 32 → i < 32 → (lowB b n).getLsbD i = (decide (i < n) && b.getLsbD i)
  | 0, i, _, _ => by simp [lowB]
  | n + 1, i, hn, hi => by
    simp only [lowB, BitVec.getLsbD_xor, lowB_bit b n i (by omega) hi]
    by_cases e : i = n
    · subst e
      cases h : b.getLsbD i <;> simp [BitVec.getLsbD_twoPow, hi]
    · have hne : (n == i) = false := by simp; omega
      have hd : (decide (i < n + 1)) = (decide (i < n)) := by simp; omega
      rw [hd]
      cases h : b.getLsbD n
      · simp
      · simp only [if_true, BitVec.getLsbD_twoPow, hi, decide_true, Bool.true_and]
        have : decide (n = i) = false := decide_eq_false (fun h => e h.symm)
        rw [this]
        simp
theorem lowB_all (b : V) : lowB b 32 = b := by
  apply BitVec.eq_of_getLsbD_eq
  intro i hi
  rw [lowB_bit b 32 i (by omega) hi]
  simp [hi]
theorem one_bit : ∀ i, i < 32 → BitVec.twoPow 32 i = Sn (31 - i) e31 := by decide +kernel
theorem all_of (P : V → Prop) (h0 : P 0#32) (hx : ∀ a b, P a → P b → P (a ^^^ b)) (hS : ∀ a, P a → P (S a)) (h1 : P e31) (b : V) : P b := by
  have hn : ∀ n, P (Sn n e31) := by
    intro n
    induction n with
    | zero => exact h1
    | succ n ih => exact hS _ ih
  have hl : ∀ n, n ≤ 32 → P (lowB b n) := by
    intro n
    induction n with
    | zero => exact fun _ => h0
    | succ n ih =>
      intro hle
      refine hx _ _ (ih (by omega)) ?_
      split
      · rw [one_bit n (by omega)]
        exact hn _
      · exact h0
  have := hl 32 (by omega)
  rwa [lowB_all] at this
theorem Sn0 (n : Nat) : Sn n 0#32 = 0#32 := by
  induction n with
  | zero => rfl
  | succ n ih => simp only [Sn, ih, S0]
theorem Sn_S (n : Nat) (b : V) : Sn n (S b) = S (Sn n b) := by
  have h1 := Sn_add n 1 b
  have h2 := Sn_add 1 n b
  rw [Nat.add_comm n 1] at h1
  simp only [Sn] at h1 h2
  rw [← h1, h2]
/-- The word's own law: thirty-two steps are what the polynomial tells. -/
theorem poly_law (b : V) : T poly b = Sn 32 b := by
  refine all_of (fun b => T poly b = Sn 32 b) ?_ ?_ ?_ ?_ b
  · show T poly 0#32 = Sn 32 0#32
    decide +kernel
  · intro a c ha hc
    show tm 32 poly (a ^^^ c) 0#32 = _
    rw [tm_xb, Sn_xor]
    exact congr (congrArg _ ha) hc
  · intro a ha
    show tm 32 poly (S a) 0#32 = _
    rw [tm_S, Sn_S]
    exact congrArg S ha
  · show T poly e31 = Sn 32 e31
    decide +kernel
theorem T_S (a b : V) : T (S a) b = S (T a b) := by
  have h1 : T (a >>> 1) b ^^^ (if a.getLsbD 0 then Sn 32 b else 0#32) = S (T a b) := by
    have h := tm_shift 32 a b
    have e : tm 33 a b 0#32 = S (T a b) := by
      show tm 32 a (S b) (0#32 ^^^ (if a.getLsbD 32 then b else 0#32)) = _
      rw [show a.getLsbD 32 = false from BitVec.getLsbD_of_ge a 32 (by omega)]
      simp only [Bool.false_eq_true, if_false]
      rw [zx, tm_S]
      rfl
    rw [e] at h
    exact h
  have h2 : T (S a) b = T (a >>> 1) b ^^^ T (if a.getLsbD 0 then poly else 0#32) b := tm_xa 32 _ _ b
  rw [h2, ← h1]
  congr 1
  split
  · exact poly_law b
  · show tm 32 0#32 b 0#32 = 0#32
    have := tm_xa 32 0#32 0#32 b
    rw [xx, xx] at this
    exact this
theorem T_e31 (b : V) : T e31 b = b := by
  refine all_of (fun b => T e31 b = b) ?_ ?_ ?_ ?_ b
  · show T e31 0#32 = 0#32
    decide +kernel
  · intro a c ha hc
    show tm 32 e31 (a ^^^ c) 0#32 = _
    rw [tm_xb]
    exact congr (congrArg _ ha) hc
  · intro a ha
    show tm 32 e31 (S a) 0#32 = _
    rw [tm_S]
    exact congrArg S ha
  · show T e31 e31 = e31
    decide +kernel
theorem T_Sn (n : Nat) (b : V) : T (Sn n e31) b = Sn n b := by
  induction n with
  | zero => exact T_e31 b
  | succ n ih => simp only [Sn, T_S, ih]
/-! the code's times and Join -/
theorem shr_of (a : Int) (n : Nat) (h : n ≤ 32) : shr .u32 a (n : Int) = a / 2 ^ n := by
  unfold shr
  rw [Int.toNat_natCast]
  congr 2
  simp only [IntKind.bits]
  omega
theorem shrn (a : V) (n : Nat) : toI a / (2 : Int) ^ n = toI (a >>> n) := by
  unfold toI
  rw [BitVec.toNat_ushiftRight, Nat.shiftRight_eq_div_pow]
  norm_cast
theorem times_l0 : ∀ (n k : Nat) (a b p : V), n ≤ 32 → n < k → wire_times.l0 k (toI a) (toI b) (toI p) ((n : Int) - 1) = some (toI (tm n a b p))
  | 0, k, a, b, p, _, hk => by
    obtain ⟨k, rfl⟩ : ∃ m, k = m + 1 := ⟨k - 1, by omega⟩
    simp only [wire_times.l0]
    rw [if_neg (by omega)]
    rfl
  | n + 1, k, a, b, p, hn, hk => by
    obtain ⟨k, rfl⟩ : ∃ m, k = m + 1 := ⟨k - 1, by omega⟩
    simp only [wire_times.l0]
    rw [if_pos (by omega), if_pos (by omega)]
    rw [show ((n + 1 : Nat) : Int) - 1 = (n : Int) by omega, shr_of _ n (by omega), shrn, and1I (a >>> n), BitVec.getLsbD_ushiftRight, Nat.add_zero, w64 (by omega) (by omega)]
    have e1 : Go.bits .xor .u32 (toI b / 2) (Go.bits .and .u32 2197175160 ((-(Go.bits .and .u32 (toI b) 1)) % 4294967296)) = toI (S b) := st1I b
    rw [e1]
    have e2 : Go.bits .xor .u32 (toI p) (Go.bits .and .u32 (toI b) ((-(if a.getLsbD n then (1 : Int) else 0)) % 4294967296)) = toI (p ^^^ (if a.getLsbD n then b else 0#32)) := by
      cases a.getLsbD n
      · simp only [Bool.false_eq_true, if_false]
        rw [show (-(0 : Int) % 4294967296) = toI 0#32 from rfl, andI, xorI]
        simp
      · simp only [if_true]
        rw [show (-(1 : Int) % 4294967296) = toI 4294967295#32 from rfl, andI, xorI]
        congr 2
        apply BitVec.eq_of_getLsbD_eq
        intro i hi
        rw [BitVec.getLsbD_and, show (4294967295#32 : V) = BitVec.allOnes 32 from rfl, BitVec.getLsbD_allOnes]
        simp [hi]
    rw [e2]
    exact times_l0 n k a (S b) _ (by omega) (by omega)
theorem times_some (k : Nat) (hk : 32 < k) (a b : V) : wire_times.f k (toI a) (toI b) = some (toI (T a b)) := times_l0 32 k a b 0#32 (by omega) hk
theorem and1_64 (n : Nat) (h : n ≤ 1000000000) : Go.bits .and .i64 (n : Int) 1 = ((n % 2 : Nat) : Int) := by
  show IntKind.i64.wrap (((BitVec.ofInt 64 (n : Int) &&& BitVec.ofInt 64 1).toNat : Nat) : Int) = _
  rw [BitVec.toNat_and]
  have h1 : (BitVec.ofInt 64 (n : Int)).toNat = n := by rw [BitVec.toNat_ofInt]; omega
  have h2 : (BitVec.ofInt 64 1).toNat = 1 := rfl
  rw [h1, h2, Nat.and_one_is_mod, i64_w, w64 (by omega) (by omega)]
theorem join_l0 (a b : V) : ∀ (n m q k : Nat), n ≤ 1000000000 → n + 40 < k → wire_Join.l0 k (toI a) (toI b) (n : Int) (toI (Sn m e31)) (toI (Sn q e31)) = some (toI (Sn (m + q * n) a ^^^ b), 0) := by
  intro n
  induction n using Nat.strongRecOn with
  | _ n ih =>
    intro m q k hn hk
    obtain ⟨k, rfl⟩ : ∃ z, k = z + 1 := ⟨k - 1, by omega⟩
    simp only [wire_Join.l0]
    by_cases c : n = 0
    · subst c
      rw [if_neg (by omega), times_some k (by omega), Option.bind_some, T_Sn, xorI, Nat.mul_zero, Nat.add_zero]
    rw [if_pos (by omega), and1_64 n hn, times_some k (by omega), times_some k (by omega), Option.bind_some, Option.bind_some, Option.bind_some, T_Sn, T_Sn, ← Sn_add, ← Sn_add, show (n : Int) / 2 = ((n / 2 : Nat) : Int) by omega]
    by_cases o : n % 2 = 1
    · rw [if_pos (by omega), ih (n / 2) (by omega) (m + q) (q + q) k (by omega) (by omega)]
      have : m + q + (q + q) * (n / 2) = m + q * n := by
        obtain ⟨z, hz⟩ : ∃ z, n = 2 * z + 1 := ⟨n / 2, by omega⟩
        have : n / 2 = z := by omega
        rw [this, hz, Nat.mul_add, Nat.add_mul, Nat.mul_one, Nat.mul_left_comm q 2 z, Nat.two_mul (q * z)]
        omega
      rw [this]
    · rw [if_neg (by omega), ih (n / 2) (by omega) m (q + q) k (by omega) (by omega)]
      have : m + (q + q) * (n / 2) = m + q * n := by
        obtain ⟨z, hz⟩ : ∃ z, n = 2 * z := ⟨n / 2, by omega⟩
        have : n / 2 = z := by omega
        rw [this, hz, Nat.add_mul, Nat.mul_left_comm q 2 z, Nat.two_mul (q * z)]
      rw [this]
theorem join_some (a b : V) (n k : Nat) (hn : n ≤ 1000000000) (hk : n + 40 < k) : wire_Join.f k (toI a) (toI b) (n : Int) = some (toI (Sn (8 * n) a ^^^ b), 0) := by
  unfold wire_Join.f
  rw [if_neg (by omega)]
  have h := join_l0 a b n 0 8 k hn hk
  rw [Nat.zero_add] at h
  exact h
/-! sums -/
theorem row_xor : ∀ (l : List Int) (c d : V), row (c ^^^ d) l = row c l ^^^ Sn (8 * l.length) d
  | [], _, _ => rfl
  | x :: l, c, d => by
    show row (Sn 8 (c ^^^ d ^^^ ch x)) l = row (Sn 8 (c ^^^ ch x)) l ^^^ Sn (8 * (l.length + 1)) d
    rw [show c ^^^ d ^^^ ch x = (c ^^^ ch x) ^^^ d by rw [BitVec.xor_assoc, BitVec.xor_comm d, ← BitVec.xor_assoc], Sn_xor, row_xor l, ← Sn_add, Nat.mul_add, Nat.mul_one]
theorem crc_two (x y : List Int) : crc (x ++ y) = Sn (8 * y.length) (crc x) ^^^ crc y := by
  unfold crc
  rw [row_append]
  have h := row_xor y F (F ^^^ row F x)
  rw [← BitVec.xor_assoc, xx, zx] at h
  rw [h, BitVec.xor_comm (Sn _ _), BitVec.xor_assoc]
theorem sum_two {x y : List Int} (hx : Bytes x) (hy : Bytes y) : sm_sumf [x, y] = toI (crc (x ++ y)) := by
  unfold sm_sumf crc
  simp only [List.foldl_cons, List.foldl_nil]
  rw [litF, rowI x F hx, rowI y _ hy, xorI, row_append]
theorem S_nil {a : V} (h : S a = 0#32) : a = 0#32 := by
  have hb : ∀ i, i < 32 → (S a).getLsbD i = false := by intro i hi; rw [h]; simp
  have h31 := hb 31 (by omega)
  unfold S at h31 hb
  rw [BitVec.getLsbD_xor, BitVec.getLsbD_ushiftRight, show a.getLsbD (1 + 31) = false from BitVec.getLsbD_of_ge a _ (by omega)] at h31
  have h0 : a.getLsbD 0 = false := by
    cases c : a.getLsbD 0
    · rfl
    · rw [c] at h31
      simp only [if_true] at h31
      exact absurd h31 (by decide)
  apply BitVec.eq_of_getLsbD_eq
  intro i hi
  rw [BitVec.getLsbD_zero]
  rcases i with _ | i
  · exact h0
  · have := hb i (by omega)
    rw [BitVec.getLsbD_xor, BitVec.getLsbD_ushiftRight, h0] at this
    simpa [Nat.add_comm 1 i] using this
theorem Sn_nil : ∀ (n : Nat) {a : V}, Sn n a = 0#32 → a = 0#32
  | 0, _, h => h
  | n + 1, _, h => Sn_nil n (S_nil h)
theorem ch_xor {v m : Int} (hv : 0 ≤ v ∧ v < 256) (hm : 0 ≤ m ∧ m < 256) : ch (Go.bits .xor .u8 v m) = ch v ^^^ ch m ∧ 0 ≤ Go.bits .xor .u8 v m ∧ Go.bits .xor .u8 v m < 256 := by
  have e : Go.bits .xor .u8 v m = IntKind.u8.wrap (((BitVec.ofInt 8 v ^^^ BitVec.ofInt 8 m).toNat : Nat) : Int) := rfl
  have hl := (BitVec.ofInt 8 v ^^^ BitVec.ofInt 8 m).isLt
  have e2 : Go.bits .xor .u8 v m = (((BitVec.ofInt 8 v ^^^ BitVec.ofInt 8 m).toNat : Nat) : Int) := by rw [e, IntKind.wrap_u8]; omega
  refine ⟨?_, by omega, by omega⟩
  rw [e2]
  apply BitVec.eq_of_toNat_eq
  unfold ch
  rw [BitVec.toNat_xor, BitVec.toNat_xor, BitVec.toNat_ofInt, BitVec.toNat_ofInt, BitVec.toNat_ofInt, BitVec.toNat_ofInt, BitVec.toNat_ofInt]
  rw [BitVec.toNat_xor, BitVec.toNat_ofInt, BitVec.toNat_ofInt] at hl
  have h1 : (v % ((2 ^ 8 : Nat) : Int)).toNat = v.toNat := by omega
  have h2 : (m % ((2 ^ 8 : Nat) : Int)).toNat = m.toNat := by omega
  have h3 : (v % ((2 ^ 32 : Nat) : Int)).toNat = v.toNat := by omega
  have h4 : (m % ((2 ^ 32 : Nat) : Int)).toNat = m.toNat := by omega
  rw [h1, h2] at hl ⊢
  rw [h3, h4]
  omega
/-- A byte turned: another sum. -/
theorem crc_turn (p q : List Int) (v v' : Int) (d : V) (hd : d ≠ 0#32) (he : ch v' = ch v ^^^ d) : crc (p ++ v' :: q) ≠ crc (p ++ v :: q) := by
  intro h
  have h1 : ∀ u, crc (p ++ u :: q) = F ^^^ row (Sn 8 (row F p ^^^ ch u)) q := by
    intro u
    unfold crc
    rw [row_append]
    rfl
  rw [h1, h1, he, ← BitVec.xor_assoc, Sn_xor, row_xor, ← BitVec.xor_assoc] at h
  have h2 : ∀ (x y : V), x ^^^ y = x → y = 0#32 := by
    intro x y hxy
    have := congrArg (fun z => x ^^^ z) hxy
    simp only [← BitVec.xor_assoc, xx, zx] at this
    exact this
  have h3 := h2 _ _ h
  rw [← Sn_add] at h3
  exact hd (Sn_nil _ h3)
end Go.Proofs.Ytpehkbkbfpbolaa.Tj
namespace Go.Proofs.Ytpehkbkbfpbolaa.Pure
open Go.RowKit Go.Proofs.Ytpehkbkbfpbolaa.PW Go.Proofs.Ytpehkbkbfpbolaa.Pl Go.Proofs.Ytpehkbkbfpbolaa.Cr Go.Proofs.Ytpehkbkbfpbolaa.Tj Go.Proofs.YtpehkbkbfpbolaaW.PrintWords Go.Proofs.YtpehkbkbfpbolaaW.PrintLast
theorem within_some (a : Int) (n : Int) (h0 : 0 < n) (h1 : n ≤ 140737488351233) : ∃ r : Nat, (r : Int) < n ∧ turnpikelaw13_within.f a n = some (r : Int) := by
  have hlo := Int.lt_tmod_of_pos a h0
  have hhi := Int.tmod_lt_of_pos a h0
  unfold turnpikelaw13_within.f
  rw [if_neg (by omega)]
  split
  · rename_i hn
    rw [w64 (by omega) (by omega)]
    exact ⟨(Int.tmod a n + n).toNat, by omega, by congr 1; omega⟩
  · rename_i hn
    exact ⟨(Int.tmod a n).toNat, by omega, by congr 1; omega⟩
theorem turn_bit (b : List Int) (hb : Bytes b) (i t : Nat) (hi : i < b.length) (ht : t < 8) : Bytes (b.set i (Go.bits .xor .u8 (rd b (i : Int)) (shl .u8 1 (t : Int)))) ∧ crc (b.set i (Go.bits .xor .u8 (rd b (i : Int)) (shl .u8 1 (t : Int)))) ≠ crc b := by
  have hm : ∀ t : Nat, t < 8 → (0 ≤ shl .u8 1 (t : Int) ∧ shl .u8 1 (t : Int) < 256) ∧ ch (shl .u8 1 (t : Int)) ≠ 0#32 := by decide +kernel
  obtain ⟨hm1, hm2⟩ := hm t ht
  have hr : rd b (i : Int) = b[i] := by simp [rd, List.getD_eq_getElem?_getD, List.getElem?_eq_getElem hi]
  have hv := hb b[i] (List.getElem_mem hi)
  rw [hr]
  obtain ⟨x1, x2, x3⟩ := ch_xor hv hm1
  have hs : b.set i (Go.bits .xor .u8 b[i] (shl .u8 1 (t : Int))) = b.take i ++ Go.bits .xor .u8 b[i] (shl .u8 1 (t : Int)) :: b.drop (i + 1) := by
    rw [List.set_eq_take_append_cons_drop, if_pos hi]
  have ho : b = b.take i ++ b[i] :: b.drop (i + 1) := by
    rw [List.getElem_cons_drop, List.take_append_drop]
  constructor
  · intro y hy
    rcases List.mem_or_eq_of_mem_set hy with hy | rfl
    · exact hb y hy
    · exact ⟨x2, x3⟩
  · rw [hs]
    intro h
    refine crc_turn (b.take i) (b.drop (i + 1)) b[i] _ _ hm2 x1 ?_
    rw [h]
    exact congrArg crc ho
theorem WireTurn (b : List Int) (x y z : Int) (hb : Bytes b) (hm : b.length ≤ 140737488351232) : ∃ k, turnpikelaw13_WireTurn.f k b x y z = some true := by
  have hsum : ∀ l, wire_Sum.f l = some (sm_sumf l) := fun _ => rfl
  have jt : turnpikelaw13_WireTurn.j0 1 b x y z true = some true := by
    simp only [turnpikelaw13_WireTurn.j0, if_true, hsum, Option.bind_some]
    have : sm_sumf [b, []] = sm_sumf [b] := rfl
    rw [this]
    simp
  unfold turnpikelaw13_WireTurn.f turnpikelaw13_known.f
  simp only [Option.bind_some, if_true]
  by_cases c0 : (b.length : Int) = 0
  · exact ⟨1, by rw [if_pos c0]; exact jt⟩
  by_cases c1 : (b.length : Int) > 65536
  · exact ⟨1, by rw [if_neg c0, decide_eq_true c1]; exact jt⟩
  refine ⟨b.length + 100, ?_⟩
  rw [if_neg c0, decide_eq_false c1]
  obtain ⟨i, hi, ei⟩ := within_some x (b.length : Int) (by omega) (by omega)
  obtain ⟨t, ht, et⟩ := within_some y 8 (by omega) (by omega)
  obtain ⟨c, hc, ec⟩ := within_some z ((b.length : Int) + 1) (by omega) (by omega)
  obtain ⟨t1, t2⟩ := turn_bit b hb i t (by omega) (by omega)
  simp only [turnpikelaw13_WireTurn.j0, Bool.false_eq_true, if_false, hsum, Option.bind_some, List.nil_append, List.length_nil, Nat.zero_add]
  have hne : ¬ (sm_sumf [b.set i (Go.bits .xor .u8 (rd b (i : Int)) (shl .u8 1 (t : Int)))] = sm_sumf [b]) := by
    rw [crcI t1, crcI hb]
    exact fun h => t2 (toI_inj h)
  have heq : sm_sumf [b.take c, b.drop c] = sm_sumf [b] := by rw [sum_two (bytes_take hb c) (bytes_drop hb c), List.take_append_drop, crcI hb]
  rw [if_pos (by omega), ei, Option.bind_some, if_pos (by omega), if_pos (by omega), et, Option.bind_some, if_pos (by omega), w64 (by omega) (by omega), ec, Option.bind_some, if_pos (by omega), if_pos (by omega), Int.toNat_natCast, Int.toNat_natCast, crcI (bytes_take hb c), crcI (bytes_drop hb c), w64 (by omega) (by omega), show (b.length : Int) - (c : Int) = ((b.drop c).length : Int) by rw [List.length_drop]; omega, join_some _ _ _ _ (by rw [List.length_drop]; omega) (by rw [List.length_drop]; omega), Option.bind_some, if_neg hne, if_pos heq, if_pos rfl, ← crc_two, List.take_append_drop, crcI hb]
  simp
end Go.Proofs.Ytpehkbkbfpbolaa.Pure
