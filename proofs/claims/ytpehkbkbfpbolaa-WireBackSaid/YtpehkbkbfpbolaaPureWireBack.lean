/- For every row of bytes and every number: what Put16 and Put32 lay behind it, Get16 and Get32 read again; past the end they refuse. No conditions. -/
import Derived.Test.YtpehkbkbfpbolaaPl
import Derived.Laws.BitsLemmas
import Derived.OpenShut
import Derived.Test.YtpehkbkbfpbolaaPWx24
set_option linter.unusedSimpArgs false
set_option linter.unusedVariables false
namespace Go.Proofs.Ytpehkbkbfpbolaa.Pure
open Go.RowKit Go.Proofs.Ytpehkbkbfpbolaa.PW Go.Proofs.Ytpehkbkbfpbolaa.Pl Go.Proofs.YtpehkbkbfpbolaaW.PrintWords Go.Proofs.YtpehkbkbfpbolaaW.PrintLast
theorem wrap32u (n : Int) (h0 : 0 ≤ n) (h1 : n < 2 ^ 32) : IntKind.u32.wrap n = n := by rw [IntKind.wrap_u32]; omega
theorem wrap16u (n : Int) (h0 : 0 ≤ n) (h1 : n < 2 ^ 16) : IntKind.u16.wrap n = n := by simp only [IntKind.wrap, IntKind.bits, IntKind.signed]; simp; omega
theorem or32 {a b c d : Int} (ha : 0 ≤ a ∧ a < 256) (hb : 0 ≤ b ∧ b < 256) (hc : 0 ≤ c ∧ c < 256) (hd : 0 ≤ d ∧ d < 256) :
    Go.bits .or .u32 (Go.bits .or .u32 (Go.bits .or .u32 (((a % 4294967296) * 16777216) % 4294967296) (((b % 4294967296) * 65536) % 4294967296)) (((c % 4294967296) * 256) % 4294967296)) (d % 4294967296) = a * 16777216 + b * 65536 + c * 256 + d := by
  rw [show (((a % 4294967296) * 16777216) % 4294967296) = a * 16777216 by omega, show (((b % 4294967296) * 65536) % 4294967296) = b * 65536 by omega, show (((c % 4294967296) * 256) % 4294967296) = c * 256 by omega, show d % 4294967296 = d by omega]
  have e1 : Go.bits .or .u32 (a * 16777216) (b * 65536) = a * 16777216 + b * 65536 := bits_join .u32 32 (by decide) wrap32u 24 _ _ (by omega) (by omega) (by omega) (by omega) (by omega) (by omega)
  have e2 : Go.bits .or .u32 (a * 16777216 + b * 65536) (c * 256) = a * 16777216 + b * 65536 + c * 256 := bits_join .u32 32 (by decide) wrap32u 16 _ _ (by omega) (by omega) (by omega) (by omega) (by omega) (by omega)
  have e3 : Go.bits .or .u32 (a * 16777216 + b * 65536 + c * 256) d = a * 16777216 + b * 65536 + c * 256 + d := bits_join .u32 32 (by decide) wrap32u 8 _ _ (by omega) (by omega) (by omega) (by omega) (by omega) (by omega)
  rw [e1, e2, e3]
theorem or16 {a b : Int} (ha : 0 ≤ a ∧ a < 256) (hb : 0 ≤ b ∧ b < 256) :
    Go.bits .or .u16 (IntKind.u16.wrap ((IntKind.u16.wrap a) * 256)) (IntKind.u16.wrap b) = a * 256 + b := by
  rw [wrap16u a (by omega) (by omega), wrap16u b (by omega) (by omega), wrap16u (a * 256) (by omega) (by omega)]
  rw [bits_join .u16 16 (by decide) wrap16u 8 _ _ (by omega) (by omega) (by omega) (by omega) (by omega) (by omega)]
theorem behind_some (l m : List Int) (h : l.length ≤ 140737488351240) (hm : m.length ≤ 8) : wire_behind.f l m = some (l ++ m) := by
  unfold wire_behind.f
  rw [w64 (by omega) (by omega), if_pos (by omega), if_pos (by omega)]
  simp only [Option.bind_some, List.nil_append, List.length_nil, Nat.zero_add]
  rw [if_pos (by omega), if_pos (by omega)]
theorem rd_app (l m : List Int) (j : Nat) : rd (l ++ m) ((l.length : Int) + j) = m.getD j 0 := by
  unfold rd
  rw [show ((l.length : Int) + j).toNat = l.length + j by omega, getD_app_ge _ _ (by omega), show l.length + j - l.length = j by omega]
theorem get16_at (l : List Int) (n a : Int) (hn2 : 0 ≤ n ∧ n < 65536) (h0 : l.length ≤ 140737488351232) (t : List Int) (ht2 : t = l ++ [n / 256 % 256, n % 256, a / 16777216 % 256, a / 65536 % 256, a / 256 % 256, a % 256]) : wire_Get16.f t (l.length : Int) = some (n, 0) := by
  have hl : t.length = l.length + 6 := by rw [ht2]; simp
  have r : ∀ j : Nat, rd t ((l.length : Int) + j) = [n / 256 % 256, n % 256, a / 16777216 % 256, a / 65536 % 256, a / 256 % 256, a % 256].getD j 0 := by
    intro j; rw [ht2]; exact rd_app l _ j
  have r0 := r 0
  have r1 := r 1
  clear r ht2
  simp only [Int.natCast_zero, Int.add_zero, List.getD_cons_zero, List.getD_cons_succ] at r0 r1
  rw [show ((1 : Nat) : Int) = 1 from rfl] at r1
  unfold wire_Get16.f
  rw [hl, w64 (x := ((l.length + 6 : Nat) : Int) - 2) (by omega) (by omega), w64 (x := (l.length : Int) + 1) (by omega) (by omega)]
  rw [if_neg (by omega), if_neg (by omega), if_neg (by omega), if_pos (by omega), if_pos (by omega), if_pos (by omega), if_pos (by omega)]
  rw [r0, r1, or16 (by omega) (by omega)]
  congr 2; omega
theorem get32_at (l : List Int) (n a : Int) (ha : 0 ≤ a ∧ a < 4294967296) (h0 : l.length ≤ 140737488351232) (t : List Int) (ht2 : t = l ++ [n / 256 % 256, n % 256, a / 16777216 % 256, a / 65536 % 256, a / 256 % 256, a % 256]) : wire_Get32.f t ((l.length : Int) + 2) = some (a, 0) ∧ wire_Get32.f t ((l.length : Int) + 3) = some (0, 30) := by
  have hl : t.length = l.length + 6 := by rw [ht2]; simp
  have r : ∀ j : Nat, rd t ((l.length : Int) + j) = [n / 256 % 256, n % 256, a / 16777216 % 256, a / 65536 % 256, a / 256 % 256, a % 256].getD j 0 := by
    intro j; rw [ht2]; exact rd_app l _ j
  have r2 := r 2
  have r3 := r 3
  have r4 := r 4
  have r5 := r 5
  clear r ht2
  simp only [List.getD_cons_zero, List.getD_cons_succ] at r2 r3 r4 r5
  constructor
  · unfold wire_Get32.f
    rw [hl, w64 (x := ((l.length + 6 : Nat) : Int) - 4) (by omega) (by omega), w64 (x := (l.length : Int) + 2 + 1) (by omega) (by omega), w64 (x := (l.length : Int) + 2 + 2) (by omega) (by omega), w64 (x := (l.length : Int) + 2 + 3) (by omega) (by omega)]
    rw [if_neg (by omega), if_neg (by omega), if_neg (by omega), if_pos (by omega), if_pos (by omega), if_pos (by omega), if_pos (by omega), if_pos (by omega), if_pos (by omega), if_pos (by omega), if_pos (by omega)]
    rw [show (l.length : Int) + 2 = (l.length : Int) + ((2 : Nat) : Int) from rfl, r2]
    rw [show (l.length : Int) + ((2 : Nat) : Int) + 1 = (l.length : Int) + ((3 : Nat) : Int) by omega, r3]
    rw [show (l.length : Int) + ((2 : Nat) : Int) + 2 = (l.length : Int) + ((4 : Nat) : Int) by omega, r4]
    rw [show (l.length : Int) + ((2 : Nat) : Int) + 3 = (l.length : Int) + ((5 : Nat) : Int) by omega, r5]
    rw [or32 (by omega) (by omega) (by omega) (by omega)]
    congr 2; omega
  · unfold wire_Get32.f
    rw [hl, w64 (x := ((l.length + 6 : Nat) : Int) - 4) (by omega) (by omega)]
    rw [if_neg (by omega), if_neg (by omega), if_pos (by omega)]
theorem u32_wf {a : Int} (wa : (Lit.int .u32 a).wf = true) : 0 ≤ a ∧ a < 4294967296 := by
  have := bounds_u32 wa
  omega
theorem u16_rng (x : Int) : 0 ≤ IntKind.u16.wrap x ∧ IntKind.u16.wrap x < 65536 := by
  simp only [IntKind.wrap, IntKind.bits, IntKind.signed]; simp; omega
theorem WireBack : turnpikelaw13_WireBack.Pure := by
  intro l a _ h0 wl wa
  rw [Nat.mul_one] at h0
  have ha := u32_wf wa
  clear wa wl
  obtain ⟨n, hn⟩ : ∃ n, n = IntKind.u16.wrap (a / 128) := ⟨_, rfl⟩
  have hn2 : 0 ≤ n ∧ n < 65536 := by rw [hn]; exact u16_rng _
  unfold turnpikelaw13_WireBack.f turnpikelaw13_known.f
  rw [Option.bind_some, if_pos rfl, ← hn]
  clear hn
  have p16 : wire_Put16.f l n = some (l ++ [n / 256 % 256, n % 256]) := by
    unfold wire_Put16.f
    rw [behind_some l _ (by omega) (by simp)]
    rfl
  have p32 : wire_Put32.f (l ++ [n / 256 % 256, n % 256]) a = some ((l ++ [n / 256 % 256, n % 256]) ++ [a / 16777216 % 256, a / 65536 % 256, a / 256 % 256, a % 256]) := by
    unfold wire_Put32.f
    rw [behind_some _ _ (by rw [List.length_append]; simp only [List.length_cons, List.length_nil]; omega) (by simp)]
    rfl
  rw [p16, Option.bind_some, p32, Option.bind_some]
  obtain ⟨t, ht⟩ : ∃ t : List Int, t = (l ++ [n / 256 % 256, n % 256]) ++ [a / 16777216 % 256, a / 65536 % 256, a / 256 % 256, a % 256] := ⟨_, rfl⟩
  rw [← ht]
  have ht2 : t = l ++ [n / 256 % 256, n % 256, a / 16777216 % 256, a / 65536 % 256, a / 256 % 256, a % 256] := by rw [ht, List.append_assoc]; rfl
  have hl : t.length = l.length + 6 := by rw [ht2, List.length_append]; rfl
  have g16 := get16_at l n a hn2 h0 t ht2
  obtain ⟨g32, g33⟩ := get32_at l n a ha h0 t ht2
  have htk : t.take l.length = l := by rw [ht2]; exact List.take_left' rfl
  clear ht ht2 p16 p32
  rw [g16, w64 (x := (l.length : Int) + 2) (by omega) (by omega), w64 (x := (l.length : Int) + 3) (by omega) (by omega), w64 (x := (l.length : Int) + 6) (by omega) (by omega), Option.bind_some, g32, Option.bind_some, g33, Option.bind_some]
  rw [if_pos (by rw [hl]; omega), if_pos (by omega), if_pos (by omega)]
  rw [show ((l.length : Int)).toNat = l.length by omega, htk]
  simp only [if_true]
  rfl
end Go.Proofs.Ytpehkbkbfpbolaa.Pure
