/- Parse and the document's Parse tell the same. -/
import Derived.Test.YtlfkbkobkibemaaPq
set_option linter.unusedSimpArgs false
set_option linter.unusedVariables false
namespace Go.Proofs.Ytlfkbkobkibemaa.Pr
open Go.RowKit Go.Proofs.Ytlfkbkobkibemaa.PT Go.Proofs.Ytlfkbkobkibemaa.Pl Go.Proofs.Ytlfkbkobkibemaa.Cr Go.Proofs.Ytlfkbkobkibemaa.Dw Go.Proofs.Ytlfkbkobkibemaa.Df Go.Proofs.Ytlfkbkobkibemaa.Pq Go.Proofs.YtlfkbkobkibemaaW.PrintWords Go.Proofs.YtlfkbkobkibemaaW.PrintLast Go.Proofs.YtlfkbkobkibemaaW.PrintMore
def patchS (y : List Int) : List P3 × Int := (dp_patches y).getD ([], 22)
theorem patch_some {y : List Int} (hy : Bytes y) (hl : y.length ≤ 1000000000) : dp_patches y = some (patchS y) ∧ ((patchS y).2 = 0 ∨ ((patchS y).1 = [] ∧ (patchS y).2 = 22)) ∧ 12 * ((patchS y).1.length : Int) ≤ (y.length : Int) := by
  unfold patchS dp_patches
  by_cases h : y.length < 4
  · rw [if_pos h]
    exact ⟨rfl, .inr ⟨rfl, rfl⟩, by simp⟩
  · rw [if_neg h]
    obtain ⟨r, hr, h1, h2⟩ := dp_total hy hl (dp_get y 0).toNat 4 [] (by omega) (by omega) (by simp)
    rw [hr]
    exact ⟨rfl, h1, h2⟩
def parseS (a b : List Int) : List P3 × Int :=
  if (b.length : Int) < 20 then ([], 22) else if (strOfNums (b.take 4)).toList = ([84, 80, 68, 49] : List UInt8) then (if beV b ((b.length : Int) - 4) = toI (crc (b.take (b.length - 4))) then (if beV b 4 = (a.length : Int) then (if beV b 8 = toI (crc a) then tellS (a.length : Int) (patchS ((b.take (b.length - 4)).drop 12)) else ([], 33)) else ([], 33)) else ([], 23)) else ([], 21)
theorem parse_ev {a b : List Int} (ha : Bytes a) (hb : Bytes b) (hla : a.length ≤ 1000000000) (hlb : b.length ≤ 1000000000) : Ev (fun k => delta_Parse.f k a b) (parseS a b) := by
  have hyb : Bytes ((b.take (b.length - 4)).drop 12) := bytes_drop (bytes_take hb _) 12
  have hyl : ((b.take (b.length - 4)).drop 12).length ≤ 1000000000 := by rw [List.length_drop, List.length_take]; omega
  obtain ⟨hp, hp2, hp3⟩ := patch_some hyb hyl
  obtain ⟨K, hK⟩ := fit_ev (a.length : Int) (patchS ((b.take (b.length - 4)).drop 12)).1 (by omega) (by omega) (by omega)
  refine ⟨K, fun k hk => ?_⟩
  show delta_Parse.f k a b = some (parseS a b)
  unfold delta_Parse.f parseS
  rw [get_val hb, get_val hb, get_val hb, crcI (bytes_take hb _), crcI ha, hp]
  simp only [Option.bind_some]
  split
  · rfl
  rw [if_pos (by omega)]
  split
  · split
    · split
      · split
        · unfold tellS
          split
          · rw [show delta_fit.f k (a.length : Int) _ = _ from hK k hk, Option.bind_some]
            split <;> rename_i h <;> simp_all
          · rfl
        · rfl
      · rfl
    · rfl
  · rfl
theorem rparse_ev {a b : List Int} (ha : Bytes a) (hb : Bytes b) (hla : a.length ≤ 1000000000) (hlb : b.length ≤ 1000000000) : Ev (fun k => turnpikeref21_Parse.f k a b) (parseS a b) := by
  have hyb : Bytes ((b.take (b.length - 4)).drop 12) := bytes_drop (bytes_take hb _) 12
  have hyl : ((b.take (b.length - 4)).drop 12).length ≤ 1000000000 := by rw [List.length_drop, List.length_take]; omega
  have he : ((b.take (b.length - 4)).drop 12).length = b.length - 4 - 12 := by rw [List.length_drop, List.length_take]; omega
  obtain ⟨K1, hK1⟩ := sum_ev (l := b.take (b.length - 4)) (bytes_take hb _) (by rw [List.length_take]; omega)
  obtain ⟨K2, hK2⟩ := sum_ev (l := a) ha (by omega)
  have hv := beV_range hb 12
  refine ⟨K1 + K2 + 4 * b.length + 40 + (beV b 12).toNat, fun k hk => ?_⟩
  show turnpikeref21_Parse.f k a b = some (parseS a b)
  unfold turnpikeref21_Parse.f parseS
  by_cases h20 : (b.length : Int) < 20
  · rw [if_pos h20, if_pos h20]
  rw [if_neg h20, if_neg h20, if_pos (by omega)]
  by_cases hm : (strOfNums (b.take 4)).toList = ([84, 80, 68, 49] : List UInt8)
  case neg => rw [if_neg hm, if_neg hm]
  rw [if_pos hm, if_pos hm, w64 (x := (b.length : Int) - 4) (by omega) (by omega), rget_some hb (by omega) ((b.length : Int) - 4) (by omega) (by omega) k (by omega), Option.bind_some, if_pos (by omega), if_pos (by omega), show ((b.length : Int) - 4).toNat = b.length - 4 by omega]
  rw [show turnpikeref13_Sum.f k (b.take (b.length - 4)) = _ from hK1 k (by omega), Option.bind_some]
  by_cases hs : beV b ((b.length : Int) - 4) = toI (crc (b.take (b.length - 4)))
  case neg => rw [if_neg hs, if_neg hs]
  rw [if_pos hs, if_pos hs, rget_some hb (by omega) 4 (by omega) (by omega) k (by omega), Option.bind_some, rget_some hb (by omega) 8 (by omega) (by omega) k (by omega), Option.bind_some]
  have hv4 := beV_range hb 4
  simp only
  rw [w64 (x := beV b 4) (by omega) (by omega)]
  obtain ⟨k, rfl⟩ : ∃ m, k = m + 1 := ⟨k - 1, by omega⟩
  by_cases h4 : beV b 4 = (a.length : Int)
  case neg =>
    rw [if_neg h4, if_neg h4]
    simp only [turnpikeref21_Parse.j0, if_true]
  rw [if_pos h4, if_pos h4, show turnpikeref13_Sum.f (k + 1) a = _ from hK2 (k + 1) (by omega), Option.bind_some]
  by_cases h8 : beV b 8 = toI (crc a)
  case neg =>
    rw [if_neg h8, show (beV b 8 != toI (crc a)) = true by simpa using h8]
    simp only [turnpikeref21_Parse.j0, if_true]
  rw [if_pos h8, show (beV b 8 != toI (crc a)) = false by simpa using h8]
  simp only [turnpikeref21_Parse.j0, Bool.false_eq_true, if_false]
  rw [rget_some hb (by omega) 12 (by omega) (by omega) k (by omega), Option.bind_some]
  obtain ⟨hp, hp2, hp3⟩ := patch_some hyb hyl
  unfold dp_patches at hp
  rw [if_neg (by omega), get_val hyb, beV_shift b (b.length - 4) (by omega) 0 (by omega) (by rw [he]; omega), show (0 : Int) + 12 = 12 from rfl] at hp
  simp only
  have hh := parse_l0 hb hla hlb (b.length - 4) (by omega) (by omega) (4 * b.length + 20) (by omega) (beV b 12).toNat k (beV b 12).toNat 0 4 [] _ (by omega) (by omega) (by omega) (by omega) (by omega) (by simp) hp
  rw [show (((beV b 12).toNat : Nat) : Int) = beV b 12 by omega, show (4 : Int) + 12 = 16 from rfl, show ((b.length - 4 : Nat) : Int) = (b.length : Int) - 4 by omega] at hh
  exact hh
theorem parse_small {a b : List Int} (hb : Bytes b) (hlb : b.length ≤ 1000000000) : (parseS a b).1.length ≤ 140737488351232 := by
  have hyb : Bytes ((b.take (b.length - 4)).drop 12) := bytes_drop (bytes_take hb _) 12
  have hyl : ((b.take (b.length - 4)).drop 12).length ≤ 1000000000 := by rw [List.length_drop, List.length_take]; omega
  obtain ⟨hp, hp2, hp3⟩ := patch_some hyb hyl
  unfold parseS tellS
  repeat' split
  all_goals first | (simp only [List.length_nil]; omega) | omega
end Go.Proofs.Ytlfkbkobkibemaa.Pr
