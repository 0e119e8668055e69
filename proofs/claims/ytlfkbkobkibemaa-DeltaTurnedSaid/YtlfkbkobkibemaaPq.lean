/- What fit, Parse and the document's Fit, Parse come to. -/
import Derived.Test.YtlfkbkobkibemaaDw
import Derived.Test.YtlfkbkobkibemaaDfT
import Derived.Test.YtlfkbkobkibemaaPTx29
import Derived.Test.YtlfkbkobkibemaaPTx31
set_option linter.unusedSimpArgs false
set_option linter.unusedVariables false
namespace Go.Proofs.Ytlfkbkobkibemaa.Pq
open Go.RowKit Go.Proofs.Ytlfkbkobkibemaa.PT Go.Proofs.Ytlfkbkobkibemaa.Pl Go.Proofs.Ytlfkbkobkibemaa.Cr Go.Proofs.Ytlfkbkobkibemaa.Dw Go.Proofs.Ytlfkbkobkibemaa.Df Go.Proofs.YtlfkbkobkibemaaW.PrintWords Go.Proofs.YtlfkbkobkibemaaW.PrintLast Go.Proofs.YtlfkbkobkibemaaW.PrintMore
abbrev P3 := S33
def fitS : Int → List P3 → Bool
  | _, [] => true
  | n, p :: ps => if p.f0 < 0 then false else if p.f0 > n then false else if p.f1 < 0 then false else if p.f1 > n - p.f0 then false else fitS (n - (p.f0 + p.f1)) ps
theorem drop_cons (l : List P3) (i : Nat) (h : i < l.length) : l.drop i = rd_T33 l (i : Int) :: l.drop (i + 1) := by
  rw [List.drop_eq_getElem_cons h]
  simp [rd_T33, List.getD_eq_getElem?_getD, List.getElem?_eq_getElem h]
theorem fit_l0 (l : List P3) (hl : l.length ≤ 140737488355328) : ∀ (d k i : Nat) (n : Int), i + d = l.length → d < k → 0 ≤ n → n ≤ 140737488355328 → delta_fit.l0 k n l (l.length : Int) (i : Int) = some (fitS n (l.drop i))
  | 0, k, i, n, hi, hk, h0, h1 => by
    obtain ⟨k, rfl⟩ : ∃ m, k = m + 1 := ⟨k - 1, by omega⟩
    simp only [delta_fit.l0]
    rw [if_neg (by omega), List.drop_eq_nil_of_le (by omega)]
    rfl
  | d + 1, k, i, n, hi, hk, h0, h1 => by
    obtain ⟨k, rfl⟩ : ∃ m, k = m + 1 := ⟨k - 1, by omega⟩
    rw [drop_cons l i (by omega)]
    simp only [delta_fit.l0, fitS]
    rw [if_pos (by omega), if_pos (by omega), if_pos (by omega)]
    generalize rd_T33 l (i : Int) = p
    by_cases c1 : p.f0 < 0
    · rw [if_pos c1, if_pos c1]
    rw [if_neg c1, if_neg c1]
    by_cases c2 : p.f0 > n
    · rw [if_pos c2, if_pos c2]
    rw [if_neg c2, if_neg c2]
    by_cases c3 : p.f1 < 0
    · rw [if_pos c3, if_pos c3]
    rw [if_neg c3, if_neg c3, w64 (x := n - p.f0) (by omega) (by omega)]
    by_cases c4 : p.f1 > n - p.f0
    · rw [if_pos c4, if_pos c4]
    rw [if_neg c4, if_neg c4, w64 (x := p.f0 + p.f1) (by omega) (by omega), w64 (x := n - (p.f0 + p.f1)) (by omega) (by omega), w64 (x := (i : Int) + 1) (by omega) (by omega), show (i : Int) + 1 = ((i + 1 : Nat) : Int) by omega]
    exact fit_l0 l hl d k (i + 1) _ (by omega) (by omega) (by omega) (by omega)
theorem fit_ev (n : Int) (l : List P3) (hl : l.length ≤ 140737488355328) (h0 : 0 ≤ n) (h1 : n ≤ 140737488355328) : Ev (fun k => delta_fit.f k n l) (fitS n l) :=
  ⟨l.length + 1, fun k hk => fit_l0 l hl l.length k 0 n (by omega) (by omega) h0 h1⟩
theorem rfit_l0 (l : List P3) (hl : l.length ≤ 140737488355328) : ∀ (d k i : Nat) (n : Int), i + d = l.length → 2 * d < k → 0 ≤ n → n ≤ 140737488355328 → turnpikeref21_Fit.l0 k n l (i : Int) = some (fitS n (l.drop i))
  | 0, k, i, n, hi, hk, h0, h1 => by
    obtain ⟨k, rfl⟩ : ∃ m, k = m + 1 := ⟨k - 1, by omega⟩
    simp only [turnpikeref21_Fit.l0]
    rw [if_neg (by omega), List.drop_eq_nil_of_le (by omega)]
    rfl
  | d + 1, k, i, n, hi, hk, h0, h1 => by
    obtain ⟨k, rfl⟩ : ∃ m, k = m + 2 := ⟨k - 2, by omega⟩
    rw [drop_cons l i (by omega)]
    simp only [turnpikeref21_Fit.l0, fitS]
    rw [if_pos (by omega), if_pos (by omega)]
    have hj : ∀ b, turnpikeref21_Fit.j1 (k + 1) n l (i : Int) b = if b = true then some false else (if (rd_T33 l (i : Int)).f1 < 0 then some false else if (rd_T33 l (i : Int)).f1 > wrap64 (n - (rd_T33 l (i : Int)).f0) then some false else turnpikeref21_Fit.l0 k (wrap64 (wrap64 (n - (rd_T33 l (i : Int)).f0) - (rd_T33 l (i : Int)).f1)) l (wrap64 ((i : Int) + 1))) := by
      intro b
      simp only [turnpikeref21_Fit.j1]
      rw [if_pos (show (0 : Int) ≤ (i : Int) by omega), if_pos (show (i : Int) < (l.length : Int) by omega)]
    rw [hj, hj]
    generalize rd_T33 l (i : Int) = p
    by_cases c1 : p.f0 < 0
    · rw [if_pos c1, if_pos c1, if_pos rfl]
    rw [if_neg c1, if_neg c1]
    by_cases c2 : p.f0 > n
    · rw [decide_eq_true c2, if_pos rfl, if_pos c2]
    rw [decide_eq_false c2, if_neg (by simp), if_neg c2]
    by_cases c3 : p.f1 < 0
    · rw [if_pos c3, if_pos c3]
    rw [if_neg c3, if_neg c3, w64 (x := n - p.f0) (by omega) (by omega)]
    by_cases c4 : p.f1 > n - p.f0
    · rw [if_pos c4, if_pos c4]
    rw [if_neg c4, if_neg c4, show n - p.f0 - p.f1 = n - (p.f0 + p.f1) by omega, w64 (x := n - (p.f0 + p.f1)) (by omega) (by omega), w64 (x := (i : Int) + 1) (by omega) (by omega), show (i : Int) + 1 = ((i + 1 : Nat) : Int) by omega]
    exact rfit_l0 l hl d k (i + 1) _ (by omega) (by omega) (by omega) (by omega)
theorem rfit_ev (n : Int) (l : List P3) (hl : l.length ≤ 140737488355328) (h0 : 0 ≤ n) (h1 : n ≤ 140737488355328) : Ev (fun k => turnpikeref21_Fit.f k n l) (fitS n l) :=
  ⟨2 * l.length + 1, fun k hk => rfit_l0 l hl l.length k 0 n (by omega) (by omega) h0 h1⟩
/-! the patches -/
theorem dp_total {y : List Int} (hy : Bytes y) (hl : y.length ≤ 1000000000) : ∀ (m : Nat) (at_ : Int) (l : List P3), 0 ≤ at_ → at_ ≤ (y.length : Int) → 12 * (l.length : Int) ≤ at_ → ∃ r, dp_loop y m at_ l = some r ∧ (r.2 = 0 ∨ (r.1 = [] ∧ r.2 = 22)) ∧ 12 * (r.1.length : Int) ≤ (y.length : Int)
  | 0, at_, l, h0, h1, h2 => by
    unfold dp_loop
    by_cases e : at_ = (y.length : Int)
    · rw [if_pos e]
      exact ⟨_, rfl, .inl rfl, by simp only; omega⟩
    · rw [if_neg e]
      exact ⟨_, rfl, .inr ⟨rfl, rfl⟩, by simp⟩
  | m + 1, at_, l, h0, h1, h2 => by
    unfold dp_loop
    by_cases c1 : (y.length : Int) < at_ + 12
    · rw [if_pos c1]
      exact ⟨_, rfl, .inr ⟨rfl, rfl⟩, by simp⟩
    rw [if_neg c1]
    by_cases c2 : (y.length : Int) - (at_ + 12) < dp_get y (at_ + 8)
    · rw [if_pos c2]
      exact ⟨_, rfl, .inr ⟨rfl, rfl⟩, by simp⟩
    rw [if_neg c2, if_pos (by omega)]
    have hr := dp_get_range y (at_ + 8)
    exact dp_total hy hl m _ _ (by omega) (by omega) (by rw [List.length_append]; simp only [List.length_singleton]; omega)
theorem beV_shift (b : List Int) (e : Nat) (he : e ≤ b.length) (at_ : Int) (h0 : 0 ≤ at_) (h1 : at_ + 4 ≤ ((b.take e).drop 12).length) : beV ((b.take e).drop 12) at_ = beV b (at_ + 12) := by
  have hl : ((b.take e).drop 12).length = e - 12 := by rw [List.length_drop, List.length_take]; omega
  rw [hl] at h1
  have r : ∀ j : Int, 0 ≤ j → j < (e : Int) - 12 → rd ((b.take e).drop 12) j = rd b (j + 12) := by
    intro j hj0 hj1
    unfold rd
    rw [getD_drop, getD_take _ (by omega)]
    congr 1
    omega
  unfold beV
  rw [r at_ (by omega) (by omega), r (at_ + 1) (by omega) (by omega), r (at_ + 2) (by omega) (by omega), r (at_ + 3) (by omega) (by omega)]
  rw [show at_ + 1 + 12 = at_ + 12 + 1 by omega, show at_ + 2 + 12 = at_ + 12 + 2 by omega, show at_ + 3 + 12 = at_ + 12 + 3 by omega]
theorem cut_shift (b : List Int) (e : Nat) (he : e ≤ b.length) (he2 : 12 ≤ e) (x y : Nat) (hxy : x ≤ y) (hy : y ≤ e - 12) : (((b.take e).drop 12).take y).drop x = (b.take (y + 12)).drop (x + 12) := by
  rw [List.take_drop, List.drop_drop, List.take_take]
  rw [show min (12 + y) e = y + 12 by omega, show 12 + x = x + 12 by omega]
def tellS (n : Int) (r : List P3 × Int) : List P3 × Int := if r.2 = 0 then (if fitS n r.1 then (r.1, 0) else ([], 33)) else ([], r.2)
theorem parse_l0 {a b : List Int} (hb : Bytes b) (ha : a.length ≤ 1000000000) (hl : b.length ≤ 1000000000) (e : Nat) (he : e ≤ b.length) (he2 : 16 ≤ e) (K : Nat) (hK : 4 * b.length + 20 ≤ K) : ∀ (m k many i : Nat) (at_ : Int) (l : List P3) (r : List P3 × Int), i + m = many → many < 4294967296 → m + K < k → 0 ≤ at_ → at_ ≤ (e : Int) - 12 → 12 * (l.length : Int) ≤ at_ →
    dp_loop ((b.take e).drop 12) m at_ l = some r → turnpikeref21_Parse.l0 k a b (e : Int) (many : Int) l (at_ + 12) (i : Int) = some (tellS (a.length : Int) r)
  | 0, k, many, i, at_, l, r, hi, hmany, hk, h0, h1, h2, h => by
    obtain ⟨k, rfl⟩ : ∃ m, k = m + 1 := ⟨k - 1, by omega⟩
    have hyl : ((b.take e).drop 12).length = e - 12 := by rw [List.length_drop, List.length_take]; omega
    simp only [turnpikeref21_Parse.l0]
    rw [w64 (x := (many : Int)) (by omega) (by omega), if_neg (by omega)]
    unfold dp_loop at h
    rw [hyl] at h
    by_cases c : at_ = ((e - 12 : Nat) : Int)
    · rw [if_pos c] at h
      obtain rfl := Option.some.inj h
      have hf : turnpikeref21_Fit.f k (a.length : Int) l = some (fitS (a.length : Int) l) := rfit_l0 l (by omega) l.length k 0 _ (by omega) (by omega) (by omega) (by omega)
      rw [if_pos (by omega), hf, Option.bind_some]
      unfold tellS
      rw [if_pos rfl]
      cases fitS (a.length : Int) l <;> simp
    · rw [if_neg c] at h
      obtain rfl := Option.some.inj h
      rw [if_neg (by omega)]
      rfl
  | m + 1, k, many, i, at_, l, r, hi, hmany, hk, h0, h1, h2, h => by
    obtain ⟨k, rfl⟩ : ∃ m, k = m + 1 := ⟨k - 1, by omega⟩
    have hyl : ((b.take e).drop 12).length = e - 12 := by rw [List.length_drop, List.length_take]; omega
    have hyb : Bytes ((b.take e).drop 12) := bytes_drop (bytes_take hb e) 12
    simp only [turnpikeref21_Parse.l0]
    rw [w64 (x := (many : Int)) (by omega) (by omega), if_pos (by omega), w64 (x := (e : Int) - (at_ + 12)) (by omega) (by omega)]
    unfold dp_loop at h
    rw [hyl] at h
    by_cases c1 : ((e - 12 : Nat) : Int) < at_ + 12
    · rw [if_pos c1] at h
      obtain rfl := Option.some.inj h
      rw [if_pos (by omega)]
      rfl
    rw [if_neg c1] at h
    rw [if_neg (by omega)]
    rw [rget_some hb (by omega) (at_ + 12) (by omega) (by omega) k (by omega), Option.bind_some, w64 (x := at_ + 12 + 4) (by omega) (by omega), rget_some hb (by omega) (at_ + 12 + 4) (by omega) (by omega) k (by omega), Option.bind_some, w64 (x := at_ + 12 + 8) (by omega) (by omega), rget_some hb (by omega) (at_ + 12 + 8) (by omega) (by omega) k (by omega), Option.bind_some]
    have q0 := beV_range hb (at_ + 12)
    have q1 := beV_range hb (at_ + 12 + 4)
    have q2 := beV_range hb (at_ + 12 + 8)
    have g0 : dp_get ((b.take e).drop 12) at_ = beV b (at_ + 12) := by rw [get_val hyb, beV_shift b e he at_ h0 (by rw [hyl]; omega)]
    have g1 : dp_get ((b.take e).drop 12) (at_ + 4) = beV b (at_ + 12 + 4) := by rw [get_val hyb, beV_shift b e he (at_ + 4) (by omega) (by rw [hyl]; omega), show at_ + 4 + 12 = at_ + 12 + 4 by omega]
    have g2 : dp_get ((b.take e).drop 12) (at_ + 8) = beV b (at_ + 12 + 8) := by rw [get_val hyb, beV_shift b e he (at_ + 8) (by omega) (by rw [hyl]; omega), show at_ + 8 + 12 = at_ + 12 + 8 by omega]
    rw [g0, g1, g2] at h
    simp only
    generalize beV b (at_ + 12) = v0 at *
    generalize beV b (at_ + 12 + 4) = v1 at *
    generalize beV b (at_ + 12 + 8) = v2 at *
    rw [w64 (x := at_ + 12 + 12) (by omega) (by omega), w64 (x := v0) (by omega) (by omega), w64 (x := v1) (by omega) (by omega), w64 (x := v2) (by omega) (by omega), w64 (x := (e : Int) - (at_ + 12 + 12)) (by omega) (by omega)]
    by_cases c2 : ((e - 12 : Nat) : Int) - (at_ + 12) < v2
    · rw [if_pos c2] at h
      obtain rfl := Option.some.inj h
      rw [if_pos (by omega)]
      rfl
    rw [if_neg c2, if_pos (by omega)] at h
    have hcs := cut_shift b e he (by omega) (at_ + 12).toNat (at_ + 12 + v2).toNat (by omega) (by omega)
    rw [hcs, show (at_ + 12 + v2).toNat + 12 = (at_ + 12 + 12 + v2).toNat by omega, show (at_ + 12).toNat + 12 = (at_ + 12 + 12).toNat by omega] at h
    rw [if_neg (by omega), if_pos (by omega), w64 (x := at_ + 12 + 12 + v2) (by omega) (by omega), if_pos (by omega), if_pos (by omega), if_pos (by rw [List.length_nil, List.length_drop, List.length_take]; omega), if_pos (by omega), List.nil_append, w64 (x := (i : Int) + 1) (by omega) (by omega)]
    rw [show (i : Int) + 1 = ((i + 1 : Nat) : Int) by omega, show at_ + 12 + 12 + v2 = (at_ + 12 + v2) + 12 by omega]
    rw [show at_ + 12 + 12 + v2 = (at_ + 12 + v2) + 12 by omega] at h
    exact parse_l0 hb ha hl e he he2 K hK m k many (i + 1) _ _ r (by omega) hmany (by omega) (by omega) (by omega) (by rw [List.length_append]; simp only [List.length_singleton]; omega) h
end Go.Proofs.Ytlfkbkobkibemaa.Pq
