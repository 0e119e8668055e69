/- What Put and Fold tell is the caller's own. -/
import Derived.Test.YtpehkbkbfpbolaaFdO
import Derived.Test.YtpehkbkbfpbolaaPOx11
set_option linter.unusedSimpArgs false
set_option linter.unusedVariables false
namespace Go.Proofs.Ytpehkbkbfpbolaa.Pure
open Go.RowKit Go.Proofs.Ytpehkbkbfpbolaa.PO Go.Proofs.Ytpehkbkbfpbolaa.Pl Go.Proofs.Ytpehkbkbfpbolaa.FdO Go.Proofs.YtpehkbkbfpbolaaW.PrintWords Go.Proofs.YtpehkbkbfpbolaaW.PrintLast
theorem own_behind (l m : List Int) (h : l.length ≤ 140737488351240) (hm : m.length ≤ 8) : wire_behind.f l m = some (l ++ m) := by
  unfold wire_behind.f
  rw [w64 (by omega) (by omega), if_pos (by omega), if_pos (by omega)]
  simp only [Option.bind_some, List.nil_append, List.length_nil, Nat.zero_add]
  rw [if_pos (by omega), if_pos (by omega)]
theorem own_rd (l m : List Int) (j : Nat) (h : j < m.length) (t : List Int) : rd (l ++ m ++ t) ((l.length : Int) + j) = m.getD j 0 := by
  unfold rd
  rw [show ((l.length : Int) + j).toNat = l.length + j by omega, List.getD_eq_getElem?_getD, List.getElem?_append_left (by rw [List.length_append]; omega), List.getElem?_append_right (by omega), show l.length + j - l.length = j by omega, ← List.getD_eq_getElem?_getD]
theorem own_last (l : List Int) (v : Int) (h : l.length ≤ 100000) : rd (l ++ List.replicate 30 v) (wrap64 (((l ++ List.replicate 30 v).length : Int) - 1)) = v := by
  rw [List.length_append, List.length_replicate, w64 (by omega) (by omega)]
  unfold rd
  rw [show (((l.length + 30 : Nat) : Int) - 1).toNat = l.length + 29 by omega, List.getD_eq_getElem?_getD, List.getElem?_append_right (by omega), List.getElem?_replicate, if_pos (by omega)]
  rfl
theorem own_j5 (n s : List Int) (hn : n.length ≤ 3000) (hs : s.length ≤ 3000) : ∃ K, ∀ m r : List Int, m.length ≤ 3000 → r.length ≤ 3000 → ∀ k, K ≤ k → turnpikelaw13_WireOwn.j5 k (m ++ List.replicate 30 4) (r ++ List.replicate 30 5) n s n s false = some true := by
  obtain ⟨K1, e1⟩ : ∃ K, ∀ k, K ≤ k → turnpikelaw13_same32.f k n n = some true := same32_ev n (by omega)
  obtain ⟨K2, e2⟩ : ∃ K, ∀ k, K ≤ k → turnpikelaw13_sameInts.f k s s = some true := sameInts_ev s (by omega)
  refine ⟨max K1 K2 + 1, fun m r hm hr k hk => ?_⟩
  obtain ⟨k, rfl⟩ : ∃ q, k = q + 1 := ⟨k - 1, by omega⟩
  have g : ∀ (l : List Int) (v : Int), l.length ≤ 3000 → 0 ≤ wrap64 (((l ++ List.replicate 30 v).length : Int) - 1) ∧ wrap64 (((l ++ List.replicate 30 v).length : Int) - 1) < ((l ++ List.replicate 30 v).length : Int) := by
    intro l v hl
    rw [List.length_append, List.length_replicate, w64 (by omega) (by omega)]
    omega
  rw [turnpikelaw13_WireOwn.j5, if_neg (by decide), e1 k (by omega), Option.bind_some, if_pos rfl, e2 k (by omega), Option.bind_some, if_pos rfl]
  rw [if_pos (g m 4 hm).1, if_pos (g m 4 hm).2, if_pos (own_last m 4 (by omega)), if_pos (g r 5 hr).1, if_pos (g r 5 hr).2, own_last r 5 (by omega)]
  rfl
theorem own_l3 (b n s : List Int) (hb : b.length ≤ 3000) (hn : n.length ≤ 3000) (hs : s.length ≤ 3000) : ∀ d i : Nat, i + d = 30 → ∃ K, ∀ a m r : List Int, a.length ≤ 3004 → m.length ≤ 3000 → r.length ≤ 3000 → ∀ k, K ≤ k →
    turnpikelaw13_WireOwn.l3 k b b (a ++ List.replicate i 1) (b ++ [0, 0, 0, 9] ++ List.replicate i 2) (b ++ [0, 9] ++ List.replicate i 3) (m ++ List.replicate i 4) (r ++ List.replicate i 5) n s n s (i : Int) = some true := by
  intro d
  induction d with
  | zero =>
    intro i hi
    obtain rfl : i = 30 := by omega
    obtain ⟨K, e⟩ := own_j5 n s hn hs
    refine ⟨K + 1, fun a m r ha hm hr k hk => ?_⟩
    obtain ⟨k, rfl⟩ : ∃ q, k = q + 1 := ⟨k - 1, by omega⟩
    have g : ∀ (l : List Int) (v : Int), l.length ≤ 3004 → 0 ≤ wrap64 (((l ++ List.replicate 30 v).length : Int) - 1) ∧ wrap64 (((l ++ List.replicate 30 v).length : Int) - 1) < ((l ++ List.replicate 30 v).length : Int) := by
      intro l v hl
      rw [List.length_append, List.length_replicate, w64 (by omega) (by omega)]
      omega
    have l7 : (b ++ [0, 0, 0, 9] ++ List.replicate 30 (2 : Int)).length = b.length + 34 := by simp
    have l8 : (b ++ [0, 9] ++ List.replicate 30 (3 : Int)).length = b.length + 32 := by simp
    have r7 := own_rd b [0, 0, 0, 9] 3 (by decide) (List.replicate 30 2)
    have r8 := own_rd b [0, 9] 1 (by decide) (List.replicate 30 3)
    rw [show (((3 : Nat) : Int)) = 3 from rfl] at r7
    rw [show (((1 : Nat) : Int)) = 1 from rfl] at r8
    have tk : (b ++ [0, 0, 0, 9] ++ List.replicate 30 (2 : Int)).take b.length = b := by rw [List.append_assoc, List.take_left]
    have g8 := g (b ++ [0, 9]) 3 (by simp; omega)
    have w8 := own_last (b ++ [0, 9]) 3 (by simp; omega)
    rw [turnpikelaw13_WireOwn.l3, if_neg (by decide), w64 (x := (b.length : Int) + 3) (by omega) (by omega), w64 (x := (b.length : Int) + 1) (by omega) (by omega)]
    rw [if_pos (by omega), if_pos (by rw [l7]; omega), if_pos (by rw [r7]; rfl), if_pos (by omega), if_pos (by rw [l8]; omega), if_pos (by rw [r8]; rfl), if_pos rfl, if_pos (by omega), if_pos (by rw [l7]; omega), Int.toNat_natCast, tk, if_pos rfl]
    rw [if_pos (g a 1 ha).1, if_pos (g a 1 ha).2, if_pos (own_last a 1 (by omega)), if_pos g8.1, if_pos g8.2, w8]
    exact e m r hm hr k (by omega)
  | succ d ih =>
    intro i hi
    obtain ⟨K, e⟩ := ih (i + 1) (by omega)
    refine ⟨K + 1, fun a m r ha hm hr k hk => ?_⟩
    obtain ⟨k, rfl⟩ : ∃ q, k = q + 1 := ⟨k - 1, by omega⟩
    rw [turnpikelaw13_WireOwn.l3, if_pos (by omega), if_pos (by simp; omega), if_pos (by simp; omega), if_pos (by simp; omega), if_pos (by simp; omega), if_pos (by simp; omega), w64 (x := (i : Int) + 1) (by omega) (by omega)]
    have := e a m r ha hm hr k (by omega)
    rw [List.replicate_succ', List.replicate_succ', List.replicate_succ', List.replicate_succ', List.replicate_succ'] at this
    simp only [← List.append_assoc] at this
    exact_mod_cast this
theorem own_l2 (b a c e' m n s : List Int) (N : Nat) (hN : N ≤ 3000) (K : Nat) (hK : ∀ r : List Int, r.length = N → ∀ k, K ≤ k → turnpikelaw13_WireOwn.l3 k b b a c e' m r n s n s 0 = some true) : ∀ d k i : Nat, ∀ r : List Int, r.length = N → i + d = N → d + K < k → turnpikelaw13_WireOwn.l2 k b b a c e' m r n s n s (i : Int) = some true := by
  intro d
  induction d with
  | zero =>
    intro k i r hr hi hk
    obtain ⟨k, rfl⟩ : ∃ q, k = q + 1 := ⟨k - 1, by omega⟩
    rw [turnpikelaw13_WireOwn.l2, if_neg (by omega)]
    exact hK r hr k (by omega)
  | succ d ih =>
    intro k i r hr hi hk
    obtain ⟨k, rfl⟩ : ∃ q, k = q + 1 := ⟨k - 1, by omega⟩
    rw [turnpikelaw13_WireOwn.l2, if_pos (by omega), if_pos (by omega), w64 (x := (i : Int) + 1) (by omega) (by omega)]
    have := ih k (i + 1) (r.set (i : Int).toNat (-1)) (by rw [List.length_set]; exact hr) (by omega) (by omega)
    exact_mod_cast this
theorem own_l1 (b a c e' r n s : List Int) (N : Nat) (hN : N ≤ 3000) (K : Nat) (hK : ∀ m : List Int, m.length = N → ∀ k, K ≤ k → turnpikelaw13_WireOwn.l2 k b b a c e' m r n s n s 0 = some true) : ∀ d k i : Nat, ∀ m : List Int, m.length = N → i + d = N → d + K < k → turnpikelaw13_WireOwn.l1 k b b a c e' m r n s n s (i : Int) = some true := by
  intro d
  induction d with
  | zero =>
    intro k i r hr hi hk
    obtain ⟨k, rfl⟩ : ∃ q, k = q + 1 := ⟨k - 1, by omega⟩
    rw [turnpikelaw13_WireOwn.l1, if_neg (by omega)]
    exact hK r hr k (by omega)
  | succ d ih =>
    intro k i r hr hi hk
    obtain ⟨k, rfl⟩ : ∃ q, k = q + 1 := ⟨k - 1, by omega⟩
    rw [turnpikelaw13_WireOwn.l1, if_pos (by omega), if_pos (by omega), w64 (x := (i : Int) + 1) (by omega) (by omega)]
    have := ih k (i + 1) (r.set (i : Int).toNat 1) (by rw [List.length_set]; exact hr) (by omega) (by omega)
    exact_mod_cast this
theorem own_l0 (b c e' m r n s : List Int) (N : Nat) (hN : N ≤ 3004) (K : Nat) (hK : ∀ a : List Int, a.length = N → ∀ k, K ≤ k → turnpikelaw13_WireOwn.l1 k b b a c e' m r n s n s 0 = some true) : ∀ d k i : Nat, ∀ a : List Int, a.length = N → i + d = N → d + K < k → turnpikelaw13_WireOwn.l0 k b b a c e' m r n s n s (i : Int) = some true := by
  intro d
  induction d with
  | zero =>
    intro k i r hr hi hk
    obtain ⟨k, rfl⟩ : ∃ q, k = q + 1 := ⟨k - 1, by omega⟩
    rw [turnpikelaw13_WireOwn.l0, if_neg (by omega)]
    exact hK r hr k (by omega)
  | succ d ih =>
    intro k i r hr hi hk
    obtain ⟨k, rfl⟩ : ∃ q, k = q + 1 := ⟨k - 1, by omega⟩
    rw [turnpikelaw13_WireOwn.l0, if_pos (by omega), if_pos (by omega), w64 (x := (i : Int) + 1) (by omega) (by omega), show (i : Int) + 1 = ((i + 1 : Nat) : Int) by omega]
    exact ih k (i + 1) (r.set (i : Int).toNat 238) (by rw [List.length_set]; exact hr) (by omega) (by omega)
theorem WireOwn : turnpikelaw13_WireOwn.Pure := by
  intro b l _ h0 wb _ h1 wl
  by_cases c : (b.length : Int) > 3000
  · refine ⟨1, ?_⟩
    unfold turnpikelaw13_WireOwn.f turnpikelaw13_known.f
    rw [Option.bind_some, if_pos rfl, if_pos c, turnpikelaw13_WireOwn.j0, if_pos rfl]
  · by_cases c2 : (l.length : Int) > 3000
    · refine ⟨1, ?_⟩
      unfold turnpikelaw13_WireOwn.f turnpikelaw13_known.f
      rw [Option.bind_some, if_pos rfl, if_neg c, decide_eq_true c2, turnpikelaw13_WireOwn.j0, if_pos rfl]
    · have fl := fold_len l
      obtain ⟨K1, e1⟩ : ∃ K, ∀ k, K ≤ k → wire_Fold_int.f k l = some (fold l) := fold_ev l (by omega)
      obtain ⟨K3, e3⟩ := own_l3 b (fold l).1 (fold l).2 (by omega) (by omega) (by omega) 30 0 (by omega)
      simp only [List.replicate_zero, List.append_nil] at e3
      have p32 : ∀ v : Int, v = 7 ∨ v = 9 → wire_Put32.f b v = some (b ++ [0, 0, 0, v]) := by
        intro v hv
        unfold wire_Put32.f
        rw [own_behind b _ (by omega) (by simp), Option.bind_some]
        rcases hv with rfl | rfl <;> rfl
      have p16 : wire_Put16.f b 9 = some (b ++ [0, 9]) := by
        unfold wire_Put16.f
        rw [own_behind b _ (by omega) (by simp), Option.bind_some]
        rfl
      have q2 : ∀ a m : List Int, a.length = b.length + 4 → m.length = (fold l).1.length → ∀ k, (fold l).2.length + K3 < k → turnpikelaw13_WireOwn.l2 k b b a (b ++ [0, 0, 0, 9]) (b ++ [0, 9]) m (fold l).2 (fold l).1 (fold l).2 (fold l).1 (fold l).2 0 = some true := by
        intro a m ha hm k hk
        exact own_l2 b a _ _ m _ _ (fold l).2.length (by omega) K3 (fun r hr k hk => e3 a m r (by omega) (by omega) (by omega) k hk) (fold l).2.length k 0 _ rfl (by omega) hk
      have q1 : ∀ a : List Int, a.length = b.length + 4 → ∀ k, (fold l).1.length + ((fold l).2.length + K3 + 1) < k → turnpikelaw13_WireOwn.l1 k b b a (b ++ [0, 0, 0, 9]) (b ++ [0, 9]) (fold l).1 (fold l).2 (fold l).1 (fold l).2 (fold l).1 (fold l).2 0 = some true := by
        intro a ha k hk
        exact own_l1 b a _ _ (fold l).2 _ _ (fold l).1.length (by omega) ((fold l).2.length + K3 + 1) (fun m hm k hk => q2 a m ha hm k (by omega)) (fold l).1.length k 0 _ rfl (by omega) hk
      have q0 := own_l0 b (b ++ [0, 0, 0, 9]) (b ++ [0, 9]) (fold l).1 (fold l).2 (fold l).1 (fold l).2 (b.length + 4) (by omega) ((fold l).1.length + ((fold l).2.length + K3 + 1) + 1) (fun a ha k hk => q1 a ha k (by omega)) (b.length + 4)
      refine ⟨K1 + K3 + b.length + (fold l).1.length + (fold l).2.length + 20, ?_⟩
      unfold turnpikelaw13_WireOwn.f turnpikelaw13_known.f
      rw [Option.bind_some, if_pos rfl, if_neg c, decide_eq_false c2, turnpikelaw13_WireOwn.j0, if_neg (by decide), w64 (x := (b.length : Int) + 20) (by omega) (by omega), if_pos (by omega), if_pos (by omega), Option.bind_some, if_pos (by rw [List.length_nil]; omega), Option.bind_some, List.nil_append]
      rw [p32 7 (.inl rfl), Option.bind_some, p32 9 (.inr rfl), Option.bind_some, p16, Option.bind_some, e1 _ (by omega), Option.bind_some, Option.bind_some, Option.bind_some, if_pos (by rw [List.length_nil]; omega), Option.bind_some, if_pos (by rw [List.length_nil]; omega), List.nil_append, List.nil_append]
      exact q0 _ 0 (b ++ [0, 0, 0, 7]) (by simp) (by omega) (by omega)
end Go.Proofs.Ytpehkbkbfpbolaa.Pure
