/- Rows that are lent: behind the length nine bytes more, each 165. -/
import Derived.Test.YtpehkbkbfpbolaaPZx6
namespace Go.Proofs.Ytpehkbkbfpbolaa.PZ
open Go.Proofs.YtpehkbkbfpbolaaM Go.RowKit Go.Proofs.YtpehkbkbfpbolaaW.PrintWords Go.Proofs.YtpehkbkbfpbolaaW.PrintLast Go.Proofs.YtpehkbkbfpbolaaW.PrintMore
def kL : Kd (List Int) where
  sz := 1
  E := 5 :: (Kd.int .u8).E
  K := fun w xs cs => ∃ A c, cs = [.slice A xs.length c] ∧ xs.length + 9 ≤ c ∧ (Kd.int .u8).C w A (xs.length + 9) (xs ++ List.replicate 9 165)
  M := fun w base ok xs cs => ∃ A c, cs = [.slice A xs.length c] ∧ (Kd.int .u8).R 5 w base ok (.slice A (xs.length + 9) c) (xs ++ List.replicate 9 165)
  K_len := by
    rintro w x cs ⟨A, c, rfl, _⟩
    rfl
  K_one := by
    rintro w x cs ⟨A, c, rfl, _⟩ u hu
    rw [List.mem_singleton.1 hu]
    rfl
  K_below := by
    rintro w w1 x cs hb ⟨A, c, rfl, hl, hr⟩
    exact ⟨A, c, rfl, hl, Kd.C_below hr hb⟩
  K_of_M := by
    rintro w base ok x cs ⟨A, c, rfl, h⟩
    obtain ⟨h1, h2, h3⟩ := Kd.R_reads' h
    exact ⟨A, c, rfl, h2, by rw [h1]; exact h3⟩
  M_mono := by
    rintro w base ok ok' x cs hok ⟨A, c, rfl, h⟩
    exact ⟨A, c, rfl, Kd.R_mono h hok⟩
  M_bound := by
    rintro w base ok x cs ⟨A, c, rfl, h⟩
    exact ⟨A, c, rfl, Kd.R_bound h⟩
  M_move := by
    rintro w w1 base ok x cs hm ⟨A, c, rfl, h⟩
    exact ⟨A, c, rfl, Kd.R_move h hm⟩
  M_lower := by
    rintro w base base' ok x cs hb ⟨A, c, rfl, h⟩
    exact ⟨A, c, rfl, Kd.R_lower h hb⟩
/-- What is lent reads as rows. -/
theorem kL_K {w : World} {x : List Int} {cs : List Value} (h : kL.K w x cs) : (Kd.slice 5 (Kd.int .u8)).K w x cs := by
  obtain ⟨A, c, rfl, hl, hC⟩ := h
  refine ⟨A, c, rfl, by omega, ?_⟩
  have hC' : (Kd.int .u8).C w A (x ++ List.replicate 9 165).length (x ++ List.replicate 9 165) := by rw [List.length_append, List.length_replicate]; exact hC
  have h1 := Kd.C_take (m := x.length) hC' (by rw [List.length_append]; omega)
  rwa [List.take_left' rfl] at h1
theorem kL_C {w : World} {A : Option Addr} {n : Nat} {xs : List (List Int)} (h : kL.C w A n xs) : (Kd.slice 5 (Kd.int .u8)).C w A n xs := by
  obtain ⟨h1, h2, h3⟩ := h
  refine ⟨h1, h2, fun hp => ?_⟩
  obtain ⟨a, e, h4⟩ := h3 hp
  refine ⟨a, e, fun j x hj => ?_⟩
  obtain ⟨c, hl, hK, hc⟩ := h4 j x hj
  exact ⟨c, hl, kL_K hK, hc⟩
theorem kL_M {w : World} {base : Nat} {ok : Nat → Prop} {A : Option Addr} {c : Nat} {x : List Int} (h : (Kd.int .u8).R 5 w base ok (.slice A (x.length + 9) c) (x ++ List.replicate 9 165)) : kL.M w base ok x [.slice A x.length c] := ⟨A, c, rfl, h⟩
theorem at_kL {w : World} {A : Option Addr} {n : Nat} {xs : List (List Int)} (h : kL.C w A n xs) (i : Int) (h0 : 0 ≤ i) (h1 : i < n) : ∃ ad A0 c0, A = some ad ∧ w.cell? (ad.add i.toNat) = some (.slice A0 (rd_L1 xs i).length c0) ∧ (rd_L1 xs i ++ List.replicate 9 165).length ≤ c0 ∧ (Kd.int .u8).C w A0 (rd_L1 xs i ++ List.replicate 9 165).length (rd_L1 xs i ++ List.replicate 9 165) := by
  obtain ⟨ad, c, e, _, hK, hc0⟩ := Kd.C_get h [] i h0 h1
  obtain ⟨A0, c0, rfl, hl, hC⟩ := hK
  have h2 := hc0 0 _ rfl
  rw [Nat.add_zero, show kL.sz = 1 from rfl, Nat.mul_one] at h2
  refine ⟨ad, A0, c0, e, h2, ?_, ?_⟩
  · rw [List.length_append, List.length_replicate]; exact hl
  · rw [List.length_append, List.length_replicate]; exact hC
theorem lend_calls (A0 : Option Addr) (c0 : Nat) (l0 : List Int) (r : List Int) (w : World) (hr0 : Kd.C (Kd.int .u8) w A0 l0.length l0) (hc0 : l0.length ≤ c0) (h : turnpikelaw13_lend.f l0 = some r) :
    Calls Try.prog 15 #[.slice A0 l0.length c0] w fun e w' => ∃ (A : Option Addr) (c : Nat), e = .returned (.slice A r.length c) ∧ Kd.R (Kd.int .u8) 5 w' w.heap.size (fun _ => True) (.slice A (r.length + 9) c) (r ++ List.replicate 9 165) ∧ Below w.heap.size w w' := by
  unfold turnpikelaw13_lend.f at h
  by_cases c : l0.length < 140737488355000
  · rw [if_pos c] at h
    cases h
    exact turnpikelaw13_lend.calls A0 c0 l0 w hr0 hc0 c
  · rw [if_neg c] at h
    cases h
end Go.Proofs.Ytpehkbkbfpbolaa.PZ
