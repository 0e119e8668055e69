/- What delta.Diff, the document's Diff, Same and Weight come to. -/
import Derived.Test.YtlfkbkobkibemaaPl
import Derived.Test.YtlfkbkobkibemaaPTx3
import Derived.Test.YtlfkbkobkibemaaPTx6
import Derived.Test.YtlfkbkobkibemaaPTx5
import Derived.Test.YtlfkbkobkibemaaPTx9
set_option linter.unusedSimpArgs false
set_option linter.unusedVariables false
namespace Go.Proofs.Ytlfkbkobkibemaa.Df
open Go.RowKit Go.Proofs.Ytlfkbkobkibemaa.PT Go.Proofs.Ytlfkbkobkibemaa.Pl Go.Proofs.YtlfkbkobkibemaaW.PrintWords Go.Proofs.YtlfkbkobkibemaaW.PrintLast
theorem clone_some {l : List Int} (h : l.length ≤ 140737488351232) : bytes_Clone.f l = some l := by
  unfold bytes_Clone.f; rw [if_pos (by omega)]
theorem rd_nat (l : List Int) (n : Nat) : rd l (n : Int) = l.getD n 0 := by simp [rd]
def one (a b : List Int) (p t : Nat) : List S33 := [⟨(p : Int), ((a.length - p - t : Nat) : Int), (b.drop p).take (b.length - p - t)⟩]
def dspec (a b : List Int) : List S33 := if a = b then [] else one a b (lcp a b) (lcs a b (lcp a b))
theorem tail_some (x0 x1 : List Int) (p T : Nat) (h0 : x0.length ≤ 140737488351232) (h1 : x1.length ≤ 140737488351232) (hT0 : T ≤ x0.length) (hT : T ≤ x1.length) :
    (if 0 ≤ (wrap64 ((x1.length : Int) - (T : Int))) then (if (wrap64 ((x1.length : Int) - (T : Int))) ≤ (x1.length : Int) then ((bytes_Clone.f (x1.take ((wrap64 ((x1.length : Int) - (T : Int))) : Int).toNat)).bind fun t118 => (some (([(⟨(p : Int), wrap64 ((x0.length : Int) - (T : Int)), t118⟩ : S33)] : List (S33))))) else (none)) else (none))
      = some [(⟨(p : Int), ((x0.length - T : Nat) : Int), x1.take (x1.length - T)⟩ : S33)] := by
  rw [w64 (by omega) (by omega), w64 (by omega) (by omega), if_pos (by omega), if_pos (by omega)]
  rw [show ((x1.length : Int) - (T : Int)).toNat = x1.length - T by omega, show (x0.length : Int) - (T : Int) = ((x0.length - T : Nat) : Int) by omega]
  rw [clone_some (by rw [List.length_take]; omega)]
  rfl
theorem dl1 (x0 x1 : List Int) (p : Nat) (h0 : x0.length ≤ 140737488351232) (h1 : x1.length ≤ 140737488351232) : ∀ d k i : Nat, i + d = min x0.length x1.length → d < k →
    delta_Diff.l1 k x0 x1 (p : Int) (i : Int) = some [(⟨(p : Int), ((x0.length - scan (suf x0 x1) d i : Nat) : Int), x1.take (x1.length - scan (suf x0 x1) d i)⟩ : S33)] := by
  intro d
  induction d with
  | zero =>
    intro k i hi hk
    obtain ⟨k, rfl⟩ : ∃ m, k = m + 1 := ⟨k - 1, by omega⟩
    simp only [delta_Diff.l1, scan]
    rw [tail_some x0 x1 p i h0 h1 (by omega) (by omega)]
    by_cases c : (i : Int) < (x0.length : Int)
    · rw [if_pos c, if_neg (by omega)]
    · rw [if_neg c]
  | succ d ih =>
    intro k i hi hk
    obtain ⟨k, rfl⟩ : ∃ m, k = m + 1 := ⟨k - 1, by omega⟩
    simp only [delta_Diff.l1]
    rw [tail_some x0 x1 p i h0 h1 (by omega) (by omega)]
    have e0 : wrap64 (wrap64 ((x0.length : Int) - 1) - (i : Int)) = ((x0.length - 1 - i : Nat) : Int) := by
      rw [w64 (x := (x0.length : Int) - 1) (by omega) (by omega), w64 (by omega) (by omega)]; omega
    have e1 : wrap64 (wrap64 ((x1.length : Int) - 1) - (i : Int)) = ((x1.length - 1 - i : Nat) : Int) := by
      rw [w64 (x := (x1.length : Int) - 1) (by omega) (by omega), w64 (by omega) (by omega)]; omega
    rw [e0, e1, rd_nat, rd_nat]
    rw [if_pos (by omega), if_pos (by omega), if_pos (by omega), if_pos (by omega), if_pos (by omega), if_pos (by omega)]
    rw [show wrap64 ((i : Int) + 1) = ((i + 1 : Nat) : Int) by rw [w64 (by omega) (by omega)]; omega]
    by_cases c : x0.getD (x0.length - 1 - i) 0 = x1.getD (x1.length - 1 - i) 0
    · rw [if_pos c, ih k (i + 1) (by omega) (by omega)]
      simp only [scan, show suf x0 x1 i = true by simp only [suf, beq_iff_eq]; exact c, if_true]
    · rw [if_neg c]
      simp only [scan, show suf x0 x1 i = false by simp only [suf, beq_eq_false_iff_ne]; exact c, Bool.false_eq_true, if_false]
theorem dj1 (a b : List Int) (p : Nat) (h0 : a.length ≤ 140737488351232) (h1 : b.length ≤ 140737488351232) (hp0 : p ≤ a.length) (hp1 : p ≤ b.length) (k : Nat) (hk : a.length + 1 < k) :
    delta_Diff.j1 k a b (p : Int) = some (one a b p (lcs a b p)) := by
  obtain ⟨k, rfl⟩ : ∃ m, k = m + 1 := ⟨k - 1, by omega⟩
  simp only [delta_Diff.j1, Int.toNat_natCast]
  rw [if_pos (by omega), if_pos (by omega), if_pos (by omega)]
  rw [show (0 : Int) = ((0 : Nat) : Int) from rfl]
  rw [dl1 (a.drop p) (b.drop p) p (by rw [List.length_drop]; omega) (by rw [List.length_drop]; omega) (min (a.drop p).length (b.drop p).length) k 0 (by omega) (by rw [List.length_drop, List.length_drop]; omega)]
  have hl := lcs_drop a b p
  unfold lcs at hl
  rw [Nat.sub_zero, Nat.sub_zero] at hl
  rw [hl]
  unfold one lcs
  rw [List.length_drop, List.length_drop]
theorem dl0 (a b : List Int) (h0 : a.length ≤ 140737488351232) (h1 : b.length ≤ 140737488351232) : ∀ d k i : Nat, i + d = min a.length b.length → a.length + d + 2 < k →
    delta_Diff.l0 k a b (i : Int) = some (one a b (scan (pre a b) d i) (lcs a b (scan (pre a b) d i))) := by
  intro d
  induction d with
  | zero =>
    intro k i hi hk
    obtain ⟨k, rfl⟩ : ∃ m, k = m + 1 := ⟨k - 1, by omega⟩
    simp only [delta_Diff.l0, scan]
    rw [dj1 a b i h0 h1 (by omega) (by omega) k (by omega)]
    by_cases c : (i : Int) < (a.length : Int)
    · rw [if_pos c, if_neg (by omega)]
    · rw [if_neg c]
  | succ d ih =>
    intro k i hi hk
    obtain ⟨k, rfl⟩ : ∃ m, k = m + 1 := ⟨k - 1, by omega⟩
    simp only [delta_Diff.l0]
    rw [dj1 a b i h0 h1 (by omega) (by omega) k (by omega), rd_nat, rd_nat]
    rw [if_pos (by omega), if_pos (by omega), if_pos (by omega)]
    rw [show wrap64 ((i : Int) + 1) = ((i + 1 : Nat) : Int) by rw [w64 (by omega) (by omega)]; omega]
    by_cases c : a.getD i 0 = b.getD i 0
    · rw [if_pos c, ih k (i + 1) (by omega) (by omega)]
      simp only [scan, show pre a b i = true by simp only [pre, beq_iff_eq]; exact c, if_true]
    · rw [if_neg c]
      simp only [scan, show pre a b i = false by simp only [pre, beq_eq_false_iff_ne]; exact c, Bool.false_eq_true, if_false]
theorem diff_ev {a b : List Int} (ha : Bytes a) (hb : Bytes b) (h0 : a.length ≤ 140737488351232) (h1 : b.length ≤ 140737488351232) : Ev (fun k => delta_Diff.f k a b) (dspec a b) := by
  refine Ev.of (k := 2 * a.length + 3) (delta_Diff.mono a b) ?_
  unfold delta_Diff.f bytes_Equal.f dspec
  simp only [Option.bind_some]
  by_cases e : a = b
  · rw [if_pos e, if_pos (by simp [e])]
  · rw [if_neg e, if_neg (by simp only [beq_iff_eq]; exact fun h => e ((str_inj ha hb).1 h))]
    rw [show (0 : Int) = ((0 : Nat) : Int) from rfl]
    rw [dl0 a b h0 h1 (min a.length b.length) _ 0 (by omega) (by omega)]
    rfl
/-! the document's -/
theorem rtail_some (x0 x1 : List Int) (p T : Nat) (h0 : x0.length ≤ 140737488351232) (h1 : x1.length ≤ 140737488351232) (hp : p ≤ x0.length) (hT0 : T ≤ x0.length - p) (hp1 : p ≤ x1.length) (hT : T ≤ x1.length - p) :
    (if 0 ≤ (p : Int) then (if (p : Int) ≤ (wrap64 ((x1.length : Int) - (T : Int))) then (if (wrap64 ((x1.length : Int) - (T : Int))) ≤ (x1.length : Int) then (some (([(⟨(p : Int), wrap64 ((wrap64 ((x0.length : Int) - (p : Int))) - (T : Int)), ((x1.take ((wrap64 ((x1.length : Int) - (T : Int))) : Int).toNat).drop ((p : Int) : Int).toNat)⟩ : S33)] : List (S33)))) else (none)) else (none)) else (none))
      = some (one x0 x1 p T) := by
  rw [w64 (x := (x0.length : Int) - (p : Int)) (by omega) (by omega), w64 (x := (x1.length : Int) - (T : Int)) (by omega) (by omega), w64 (by omega) (by omega), if_pos (by omega), if_pos (by omega), if_pos (by omega)]
  rw [show ((x1.length : Int) - (T : Int)).toNat = x1.length - T by omega, Int.toNat_natCast, List.drop_take]
  unfold one
  rw [show ((x0.length : Int) - (p : Int) - (T : Int)) = ((x0.length - p - T : Nat) : Int) by omega, show x1.length - T - p = x1.length - p - T by omega]
theorem rl1 (x0 x1 : List Int) (p : Nat) (h0 : x0.length ≤ 140737488351232) (h1 : x1.length ≤ 140737488351232) (hp0 : p ≤ x0.length) (hp1 : p ≤ x1.length) : ∀ d k i : Nat, i + d = min (x0.length - p) (x1.length - p) → d < k →
    turnpikeref21_Diff.l1 k x0 x1 (p : Int) (i : Int) = some (one x0 x1 p (scan (suf x0 x1) d i)) := by
  have f0 : wrap64 ((x0.length : Int) - (p : Int)) = ((x0.length - p : Nat) : Int) := by rw [w64 (by omega) (by omega)]; omega
  have f1 : wrap64 ((x1.length : Int) - (p : Int)) = ((x1.length - p : Nat) : Int) := by rw [w64 (by omega) (by omega)]; omega
  intro d
  induction d with
  | zero =>
    intro k i hi hk
    obtain ⟨k, rfl⟩ : ∃ m, k = m + 1 := ⟨k - 1, by omega⟩
    simp only [turnpikeref21_Diff.l1, scan]
    rw [rtail_some x0 x1 p i h0 h1 hp0 (by omega) hp1 (by omega), f0, f1]
    by_cases c : (i : Int) < ((x0.length - p : Nat) : Int)
    · rw [if_pos c, if_neg (by omega)]
    · rw [if_neg c]
  | succ d ih =>
    intro k i hi hk
    obtain ⟨k, rfl⟩ : ∃ m, k = m + 1 := ⟨k - 1, by omega⟩
    simp only [turnpikeref21_Diff.l1]
    rw [rtail_some x0 x1 p i h0 h1 hp0 (by omega) hp1 (by omega), f0, f1]
    have e0 : wrap64 (wrap64 ((x0.length : Int) - 1) - (i : Int)) = ((x0.length - 1 - i : Nat) : Int) := by
      rw [w64 (x := (x0.length : Int) - 1) (by omega) (by omega), w64 (by omega) (by omega)]; omega
    have e1 : wrap64 (wrap64 ((x1.length : Int) - 1) - (i : Int)) = ((x1.length - 1 - i : Nat) : Int) := by
      rw [w64 (x := (x1.length : Int) - 1) (by omega) (by omega), w64 (by omega) (by omega)]; omega
    rw [e0, e1, rd_nat, rd_nat]
    rw [if_pos (by omega), if_pos (by omega), if_pos (by omega), if_pos (by omega), if_pos (by omega), if_pos (by omega)]
    rw [show wrap64 ((i : Int) + 1) = ((i + 1 : Nat) : Int) by rw [w64 (by omega) (by omega)]; omega]
    by_cases c : x0.getD (x0.length - 1 - i) 0 = x1.getD (x1.length - 1 - i) 0
    · rw [if_pos c, ih k (i + 1) (by omega) (by omega)]
      simp only [scan, show suf x0 x1 i = true by simp only [suf, beq_iff_eq]; exact c, if_true]
    · rw [if_neg c]
      simp only [scan, show suf x0 x1 i = false by simp only [suf, beq_eq_false_iff_ne]; exact c, Bool.false_eq_true, if_false]
theorem rl0 (a b : List Int) (h0 : a.length ≤ 140737488351232) (h1 : b.length ≤ 140737488351232) : ∀ d k i : Nat, i + d = min a.length b.length → a.length + d + 2 < k →
    turnpikeref21_Diff.l0 k a b (i : Int) = some (one a b (scan (pre a b) d i) (lcs a b (scan (pre a b) d i))) := by
  have rj1 : ∀ i k : Nat, i ≤ a.length → i ≤ b.length → a.length + 1 < k → turnpikeref21_Diff.j1 k a b (i : Int) = some (one a b i (lcs a b i)) := by
    intro i k hi0 hi1 hk
    obtain ⟨k, rfl⟩ : ∃ m, k = m + 1 := ⟨k - 1, by omega⟩
    simp only [turnpikeref21_Diff.j1]
    rw [show (0 : Int) = ((0 : Nat) : Int) from rfl]
    rw [rl1 a b i h0 h1 hi0 hi1 (min (a.length - i) (b.length - i)) k 0 (by omega) (by omega)]
    rfl
  intro d
  induction d with
  | zero =>
    intro k i hi hk
    obtain ⟨k, rfl⟩ : ∃ m, k = m + 1 := ⟨k - 1, by omega⟩
    simp only [turnpikeref21_Diff.l0, scan]
    rw [rj1 i k (by omega) (by omega) (by omega)]
    by_cases c : (i : Int) < (a.length : Int)
    · rw [if_pos c, if_neg (by omega)]
    · rw [if_neg c]
  | succ d ih =>
    intro k i hi hk
    obtain ⟨k, rfl⟩ : ∃ m, k = m + 1 := ⟨k - 1, by omega⟩
    simp only [turnpikeref21_Diff.l0]
    rw [rj1 i k (by omega) (by omega) (by omega), rd_nat, rd_nat]
    rw [if_pos (by omega), if_pos (by omega), if_pos (by omega)]
    rw [show wrap64 ((i : Int) + 1) = ((i + 1 : Nat) : Int) by rw [w64 (by omega) (by omega)]; omega]
    by_cases c : a.getD i 0 = b.getD i 0
    · rw [if_pos c, ih k (i + 1) (by omega) (by omega)]
      simp only [scan, show pre a b i = true by simp only [pre, beq_iff_eq]; exact c, if_true]
    · rw [if_neg c]
      simp only [scan, show pre a b i = false by simp only [pre, beq_eq_false_iff_ne]; exact c, Bool.false_eq_true, if_false]
theorem rdiff_ev {a b : List Int} (ha : Bytes a) (hb : Bytes b) (h0 : a.length ≤ 140737488351232) (h1 : b.length ≤ 140737488351232) : Ev (fun k => turnpikeref21_Diff.f k a b) (dspec a b) := by
  refine Ev.of (k := 2 * a.length + 3) (turnpikeref21_Diff.mono a b) ?_
  unfold turnpikeref21_Diff.f dspec
  by_cases e : a = b
  · rw [if_pos e, if_pos (by rw [e])]
  · rw [if_neg e, if_neg (fun h => e ((str_inj ha hb).1 h))]
    rw [show (0 : Int) = ((0 : Nat) : Int) from rfl]
    rw [rl0 a b h0 h1 (min a.length b.length) _ 0 (by omega) (by omega)]
    rfl
/-! Same, of a row and itself; Weight -/
theorem same_l0 (l : List S33) (h : l.length ≤ 140737488351232) : ∀ d k i : Nat, i + d = l.length → d < k → turnpikelaw21_Same.l0 k l l (i : Int) = some true := by
  intro d
  induction d with
  | zero =>
    intro k i hi hk
    obtain ⟨k, rfl⟩ : ∃ m, k = m + 1 := ⟨k - 1, by omega⟩
    simp only [turnpikelaw21_Same.l0]
    rw [if_neg (by omega)]
  | succ d ih =>
    intro k i hi hk
    obtain ⟨k, rfl⟩ : ∃ m, k = m + 1 := ⟨k - 1, by omega⟩
    simp only [turnpikelaw21_Same.l0]
    rw [if_pos (by omega), if_pos (by omega), if_pos (by omega)]
    simp only [if_true]
    rw [show wrap64 ((i : Int) + 1) = ((i + 1 : Nat) : Int) by rw [w64 (by omega) (by omega)]; omega]
    exact ih k (i + 1) (by omega) (by omega)
theorem same_ev (l : List S33) (h : l.length ≤ 140737488351232) : Ev (fun k => turnpikelaw21_Same.f k l l) true := by
  refine Ev.of (k := l.length + 1) (turnpikelaw21_Same.mono l l) ?_
  unfold turnpikelaw21_Same.f
  rw [if_pos rfl, show (0 : Int) = ((0 : Nat) : Int) from rfl]
  exact same_l0 l h l.length _ 0 (by omega) (by omega)
def wsum (l : List S33) : Nat := (l.map fun x => x.f2.length).sum
theorem wsum_drop (l : List S33) (i : Nat) (h : i < l.length) : wsum (l.drop i) = (rd_T33 l (i : Int)).f2.length + wsum (l.drop (i + 1)) := by
  rw [List.drop_eq_getElem_cons h]
  simp only [wsum, List.map_cons, List.sum_cons]
  simp [rd_T33, List.getD_eq_getElem?_getD, List.getElem?_eq_getElem h]
theorem weight_l0 (l : List S33) (h : l.length ≤ 140737488351232) : ∀ d k i n : Nat, i + d = l.length → d < k → n + wsum (l.drop i) ≤ 9223372036854775807 → delta_Weight.l0 k (n : Int) l (l.length : Int) (i : Int) = some ((n + wsum (l.drop i) : Nat) : Int) := by
  intro d
  induction d with
  | zero =>
    intro k i n hi hk hb
    obtain ⟨k, rfl⟩ : ∃ m, k = m + 1 := ⟨k - 1, by omega⟩
    simp only [delta_Weight.l0]
    rw [if_neg (by omega), List.drop_eq_nil_of_le (by omega)]
    simp [wsum]
  | succ d ih =>
    intro k i n hi hk hb
    obtain ⟨k, rfl⟩ : ∃ m, k = m + 1 := ⟨k - 1, by omega⟩
    simp only [delta_Weight.l0]
    have hw := wsum_drop l i (by omega)
    rw [if_pos (by omega), if_pos (by omega), if_pos (by omega)]
    rw [show wrap64 ((i : Int) + 1) = ((i + 1 : Nat) : Int) by rw [w64 (by omega) (by omega)]; omega]
    rw [show wrap64 ((n : Int) + ((rd_T33 l (i : Int)).f2.length : Int)) = ((n + (rd_T33 l (i : Int)).f2.length : Nat) : Int) by rw [w64 (by omega) (by omega)]; omega]
    rw [ih k (i + 1) _ (by omega) (by omega) (by omega), hw, Nat.add_assoc]
theorem weight_ev (l : List S33) (h : l.length ≤ 140737488351232) (hb : wsum l ≤ 9223372036854775807) : Ev (fun k => delta_Weight.f k l) ((wsum l : Nat) : Int) := by
  refine Ev.of (k := l.length + 1) (delta_Weight.mono l) ?_
  unfold delta_Weight.f
  have := weight_l0 l h l.length (l.length + 1) 0 0 (by omega) (by omega) (by simpa using hb)
  simpa using this
theorem dspec_len (a b : List Int) : (dspec a b).length = if a = b then 0 else 1 := by
  unfold dspec one; split <;> rfl
theorem dspec_small (a b : List Int) : (dspec a b).length ≤ 140737488351232 := by
  rw [dspec_len]; split <;> omega
theorem dspec_weight (a b : List Int) : wsum (dspec a b) = if a = b then 0 else b.length - lcp a b - lcs a b (lcp a b) := by
  unfold dspec
  split
  · rfl
  · have := lcs_le a b (lcp a b)
    simp [one, wsum, List.length_take, List.length_drop]
end Go.Proofs.Ytlfkbkobkibemaa.Df
