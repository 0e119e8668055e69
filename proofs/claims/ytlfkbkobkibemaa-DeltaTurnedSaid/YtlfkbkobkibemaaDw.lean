/- What the document's sums and numbers of four bytes come to. -/
import Derived.Laws.BitsLemmas
import Derived.Test.YtlfkbkobkibemaaCr
import Derived.Test.YtlfkbkobkibemaaPTx23
import Derived.Test.YtlfkbkobkibemaaPTx21
import Derived.Test.YtlfkbkobkibemaaPTx30
import Derived.Test.YtlfkbkobkibemaaPTx29
import Derived.Test.YtlfkbkobkibemaaPTx18
set_option linter.unusedSimpArgs false
set_option linter.unusedVariables false
namespace Go.Proofs.Ytlfkbkobkibemaa.Dw
open Go.RowKit Go.Proofs.Ytlfkbkobkibemaa.PT Go.Proofs.Ytlfkbkobkibemaa.Pl Go.Proofs.Ytlfkbkobkibemaa.Cr Go.Proofs.YtlfkbkobkibemaaW.PrintWords Go.Proofs.YtlfkbkobkibemaaW.PrintLast Go.Proofs.YtlfkbkobkibemaaW.PrintMore
theorem step_l0 : ∀ (d k : Nat) (i : Nat) (c : V), i + d = 8 → d < k → turnpikeref13_step.l0 k (toI c) (i : Int) = some (toI (Sn d c))
  | 0, k, i, c, hi, hk => by
    obtain ⟨k, rfl⟩ : ∃ m, k = m + 1 := ⟨k - 1, by omega⟩
    simp only [turnpikeref13_step.l0]
    rw [if_neg (by omega)]
    rfl
  | d + 1, k, i, c, hi, hk => by
    obtain ⟨k, rfl⟩ : ∃ m, k = m + 1 := ⟨k - 1, by omega⟩
    have ih := step_l0 d k (i + 1) (S c) (by omega) (by omega)
    have e : Sn d (S c) = Sn (d + 1) c := by rw [Sn_add d 1 c]; rfl
    simp only [turnpikeref13_step.l0]
    rw [if_pos (by omega), w64 (x := (i : Int) + 1) (by omega) (by omega), and1I, show toI c / (2 : Int) = toI (c >>> 1) from shr1 c, show (i : Int) + 1 = ((i + 1 : Nat) : Int) by omega]
    rw [e] at ih
    cases h : c.getLsbD 0
    · simp only [Bool.false_eq_true, if_false]
      rw [if_neg (by decide)]
      have e2 : S c = c >>> 1 := by unfold S; rw [h]; simp
      rw [← e2]
      exact ih
    · simp only [if_true]
      have e2 : S c = (c >>> 1) ^^^ poly := by unfold S; rw [h]; simp
      rw [litp, xorI, ← e2]
      exact ih
theorem step_some (k : Nat) (hk : 8 < k) (c : V) (x : Int) (hx : 0 ≤ x ∧ x < 256) : turnpikeref13_step.f k (toI c) x = some (toI (Sn 8 (c ^^^ ch x))) := by
  unfold turnpikeref13_step.f
  rw [show x % 4294967296 = x from Int.emod_eq_of_lt hx.1 (by omega)]
  have e : Go.bits .xor .u32 (toI c) x = toI (c ^^^ ch x) := by
    conv => lhs; rw [← ch_I hx]
    exact xorI c (ch x)
  rw [e]
  exact step_l0 8 k 0 _ rfl hk
theorem sum_l0 (l : List Int) (hb : Bytes l) (hl : l.length ≤ 140737488355328) : ∀ (d k i : Nat) (c : V), i + d = l.length → d + 9 < k → turnpikeref13_Sum.l0 k l (toI c) (i : Int) = some (toI (F ^^^ row c (l.drop i)))
  | 0, k, i, c, hi, hk => by
    obtain ⟨k, rfl⟩ : ∃ m, k = m + 1 := ⟨k - 1, by omega⟩
    simp only [turnpikeref13_Sum.l0]
    rw [if_neg (by omega), litF, xorI, List.drop_eq_nil_of_le (by omega)]
    rfl
  | d + 1, k, i, c, hi, hk => by
    obtain ⟨k, rfl⟩ : ∃ m, k = m + 1 := ⟨k - 1, by omega⟩
    have hlt : i < l.length := by omega
    have hx : 0 ≤ rd l (i : Int) ∧ rd l (i : Int) < 256 := by
      rw [show rd l (i : Int) = l[i] from by simp [rd, List.getD_eq_getElem?_getD, List.getElem?_eq_getElem hlt]]
      exact hb _ (List.getElem_mem _)
    simp only [turnpikeref13_Sum.l0]
    rw [if_pos (by omega), if_pos (by omega), step_some k (by omega) c _ hx, Option.bind_some, w64 (x := (i : Int) + 1) (by omega) (by omega), show (i : Int) + 1 = ((i + 1 : Nat) : Int) by omega, sum_l0 l hb hl d k (i + 1) _ (by omega) (by omega)]
    rw [List.drop_eq_getElem_cons hlt]
    have e : rd l (i : Int) = l[i] := by simp [rd, List.getD_eq_getElem?_getD, List.getElem?_eq_getElem hlt]
    rw [e]
    rfl
theorem sum_ev {l : List Int} (hb : Bytes l) (hl : l.length ≤ 140737488355328) : Ev (fun k => turnpikeref13_Sum.f k l) (toI (crc l)) :=
  ⟨l.length + 10, fun k hk => by
    unfold turnpikeref13_Sum.f
    exact sum_l0 l hb hl l.length k 0 F (by omega) (by omega)⟩
theorem shr_of (a : Int) (n : Nat) (h : n ≤ 32) : shr .u32 a (n : Int) = a / 2 ^ n := by
  unfold shr
  rw [Int.toNat_natCast, show min n IntKind.u32.bits = n from Nat.min_eq_left h]
theorem put_some (k : Nat) (hk : 5 < k) (l : List Int) (v : Int) (hl : l.length < 140737488355320) : turnpikeref13_Put.f k l v 4 = some (l ++ db_be4 v) := by
  obtain ⟨k, rfl⟩ : ∃ m, k = m + 5 := ⟨k - 5, by omega⟩
  unfold turnpikeref13_Put.f
  rw [show wrap64 (4 - 1) = ((3 : Nat) : Int) from by unfold wrap64; omega]
  have r : ∀ (k : Nat) (x : List Int) (i : Nat), i ≤ 3 → x.length < 140737488355328 → turnpikeref13_Put.l0 (k + 1) x v (i : Int) = turnpikeref13_Put.l0 k (x ++ [v / 2 ^ (8 * i) % 256]) v ((i : Int) - 1) := by
    intro k x i hi hx
    simp only [turnpikeref13_Put.l0]
    rw [if_pos (by omega), w64 (x := 8 * (i : Int)) (by omega) (by omega), if_pos (by omega), if_pos hx, w64 (x := (i : Int) - 1) (by omega) (by omega), show (8 : Int) * (i : Int) = ((8 * i : Nat) : Int) by omega, shr_of v (8 * i) (by omega)]
  rw [r (k + 4) l 3 (by omega) (by omega), show ((3 : Nat) : Int) - 1 = ((2 : Nat) : Int) by omega, r (k + 3) _ 2 (by omega) (by simp; omega), show ((2 : Nat) : Int) - 1 = ((1 : Nat) : Int) by omega, r (k + 2) _ 1 (by omega) (by simp; omega), show ((1 : Nat) : Int) - 1 = ((0 : Nat) : Int) by omega, r (k + 1) _ 0 (by omega) (by simp; omega)]
  simp only [turnpikeref13_Put.l0]
  rw [if_neg (by omega)]
  simp only [List.append_assoc, List.singleton_append, List.cons_append, List.nil_append, db_be4]
  simp
/-! numbers of four bytes -/
theorem wrap32u (n : Int) (h0 : 0 ≤ n) (h1 : n < 2 ^ 32) : IntKind.u32.wrap n = n := by rw [IntKind.wrap_u32]; omega
theorem join8 (v x : Int) (hv : 0 ≤ v) (hv2 : v < 16777216) (hx : 0 ≤ x ∧ x < 256) : Go.bits .or .u32 ((v * 256) % 4294967296) (x % 4294967296) = v * 256 + x := by
  rw [show (v * 256) % 4294967296 = v * 256 by omega, show x % 4294967296 = x by omega]
  exact bits_join .u32 32 (by decide) wrap32u 8 _ _ (by omega) (by omega) (by omega) (by omega) (by omega) (by omega)
def beV (b : List Int) (at_ : Int) : Int := rd b at_ * 16777216 + rd b (at_ + 1) * 65536 + rd b (at_ + 2) * 256 + rd b (at_ + 3)
theorem rd_byte {b : List Int} (hb : Bytes b) (i : Int) : 0 ≤ rd b i ∧ rd b i < 256 := by
  unfold rd
  rw [List.getD_eq_getElem?_getD]
  cases h : b[i.toNat]? with
  | none => simp
  | some x => exact hb x (List.mem_of_getElem? h)
theorem beV_range {b : List Int} (hb : Bytes b) (i : Int) : 0 ≤ beV b i ∧ beV b i < 4294967296 := by
  have h0 := rd_byte hb i
  have h1 := rd_byte hb (i + 1)
  have h2 := rd_byte hb (i + 2)
  have h3 := rd_byte hb (i + 3)
  unfold beV
  omega
theorem get_val {b : List Int} (hb : Bytes b) (at_ : Int) : dp_get b at_ = beV b at_ := by
  have h0 := rd_byte hb at_
  have h1 := rd_byte hb (at_ + 1)
  have h2 := rd_byte hb (at_ + 2)
  have h3 := rd_byte hb (at_ + 3)
  unfold dp_get beV
  generalize rd b at_ = p at *
  generalize rd b (at_ + 1) = q at *
  generalize rd b (at_ + 2) = r at *
  generalize rd b (at_ + 3) = s at *
  rw [show (((p % 4294967296) * 16777216) % 4294967296) = p * 16777216 by omega, show (((q % 4294967296) * 65536) % 4294967296) = q * 65536 by omega, show (((r % 4294967296) * 256) % 4294967296) = r * 256 by omega, show s % 4294967296 = s by omega]
  have e1 : Go.bits .or .u32 (p * 16777216) (q * 65536) = p * 16777216 + q * 65536 := bits_join .u32 32 (by decide) wrap32u 24 _ _ (by omega) (by omega) (by omega) (by omega) (by omega) (by omega)
  have e2 : Go.bits .or .u32 (p * 16777216 + q * 65536) (r * 256) = p * 16777216 + q * 65536 + r * 256 := bits_join .u32 32 (by decide) wrap32u 16 _ _ (by omega) (by omega) (by omega) (by omega) (by omega) (by omega)
  have e3 : Go.bits .or .u32 (p * 16777216 + q * 65536 + r * 256) s = p * 16777216 + q * 65536 + r * 256 + s := bits_join .u32 32 (by decide) wrap32u 8 _ _ (by omega) (by omega) (by omega) (by omega) (by omega) (by omega)
  rw [e1, e2, e3]
theorem get_l0 {b : List Int} (hb : Bytes b) (hl : b.length ≤ 140737488355328) (at_ : Int) (h0 : 0 ≤ at_) (h1 : at_ + 4 ≤ (b.length : Int)) (k : Nat) (hk : 5 < k) : turnpikeref13_Get.l0 k b at_ 4 0 at_ = some (beV b at_, true) := by
  obtain ⟨k, rfl⟩ : ∃ m, k = m + 5 := ⟨k - 5, by omega⟩
  have r : ∀ (k : Nat) (v i : Int), at_ ≤ i → i < at_ + 4 → turnpikeref13_Get.l0 (k + 1) b at_ 4 v i = turnpikeref13_Get.l0 k b at_ 4 (Go.bits .or .u32 ((v * 256) % 4294967296) ((rd b i) % 4294967296)) (i + 1) := by
    intro k v i hi hx
    simp only [turnpikeref13_Get.l0]
    rw [w64 (x := at_ + 4) (by omega) (by omega), if_pos hx, if_pos (by omega), if_pos (by omega), w64 (x := i + 1) (by omega) (by omega)]
  have b0 := rd_byte hb at_
  have b1 := rd_byte hb (at_ + 1)
  have b2 := rd_byte hb (at_ + 2)
  have b3 := rd_byte hb (at_ + 3)
  rw [r (k + 4) 0 at_ (by omega) (by omega), join8 0 _ (by omega) (by omega) b0, r (k + 3) _ (at_ + 1) (by omega) (by omega), join8 _ _ (by omega) (by omega) b1, show at_ + 1 + 1 = at_ + 2 by omega, r (k + 2) _ (at_ + 2) (by omega) (by omega), join8 _ _ (by omega) (by omega) b2, show at_ + 2 + 1 = at_ + 3 by omega, r (k + 1) _ (at_ + 3) (by omega) (by omega), join8 _ _ (by omega) (by omega) b3]
  simp only [turnpikeref13_Get.l0]
  rw [w64 (x := at_ + 4) (by omega) (by omega), if_neg (by omega)]
  unfold beV
  congr 2
  omega
theorem rget_some {b : List Int} (hb : Bytes b) (hl : b.length ≤ 140737488355328) (at_ : Int) (h0 : 0 ≤ at_) (h1 : at_ + 4 ≤ (b.length : Int)) (k : Nat) (hk : 6 < k) : turnpikeref13_Get.f k b at_ 4 = some (beV b at_, true) := by
  obtain ⟨k, rfl⟩ : ∃ m, k = m + 1 := ⟨k - 1, by omega⟩
  unfold turnpikeref13_Get.f
  rw [if_neg (by omega), if_neg (by omega), w64 (x := (b.length : Int) - at_) (by omega) (by omega), decide_eq_false (by omega)]
  simp only [turnpikeref13_Get.j0, Bool.false_eq_true, if_false]
  exact get_l0 hb hl at_ h0 h1 k (by omega)
end Go.Proofs.Ytlfkbkobkibemaa.Dw
