/- An argument that is a row of patches: what it reads as, and how much of the bulk it is. -/
import Derived.Test.YtpehkbkbfpbolaaRows
import Derived.Test.YtpehkbkbfpbolaaWSums
import Derived.Deep.Slices
import Derived.ProofKit
import Derived.OpenShut
set_option linter.unusedSimpArgs false
set_option linter.unusedVariables false
namespace Go.Proofs.Ytpehkbkbfpbolaa.Ow
open Go.ChangeShapes Go.WideShapes Go.ChangeAt Go.RowKit Go.Deep Go.Proofs.Ytpehkbkbfpbolaa.PZ Go.Proofs.YtpehkbkbfpbolaaW.PrintWords
theorem bulk_one {H : Type} (d : DataW H) : 1 ≤ Rows.uptoBulk d := by
  cases d with
  | lit l => cases l <;> simp [Rows.uptoBulk]
  | nil => simp [Rows.uptoBulk]
  | ptr d => simp [Rows.uptoBulk]
  | slice elems spare => simp [Rows.uptoBulk]
  | agg parts => simp [Rows.uptoBulk]
  | iface t d => simp [Rows.uptoBulk]
  | map entries => simp [Rows.uptoBulk]
  | held h => simp [Rows.uptoBulk]
theorem bulk_len {H : Type} : ∀ l : List (DataW H), l.length ≤ Rows.uptoBulkAll l
  | [] => by simp [Rows.uptoBulkAll]
  | x :: r => by
    have := bulk_one x
    have := bulk_len r
    simp only [Rows.uptoBulkAll, List.length_cons]
    omega
theorem bulk_map {H : Type} (D : Nat → DataW H) (n : Nat → Nat) : ∀ l : List Nat, (∀ i ∈ l, n i ≤ Rows.uptoBulk (D i)) → (l.map n).sum ≤ Rows.uptoBulkAll (l.map D)
  | [], _ => by simp [Rows.uptoBulkAll]
  | x :: r, h => by
    have h1 := h x (by simp)
    have h2 := bulk_map D n r (fun i hi => h i (by simp [hi]))
    simp only [List.map_cons, List.sum_cons, Rows.uptoBulkAll]
    omega
/-- What a row of bytes reads as. -/
theorem bytes_of {H : Type} {enc : TypeId × Value → H} {W : World} {fuel : Nat} {v : Value} {x : DataW H × List MemPlace} (h : DataW.trod enc Try.prog W 0 (fun _ => true) true fuel 24 [v] = some x) :
    ∃ (A : Option Addr) (c : Nat) (l : List Int), v = .slice A l.length c ∧ l.length ≤ c ∧ Kd.C (Kd.int .u8) W A l.length l ∧ (∀ y ∈ l, (Lit.int .u8 y).wf = true) ∧ l.length + 1 ≤ Rows.uptoBulk x.1 := by
  rcases open_ints Try.underlying24 Try.underlying5 (by kernel_rfl) h with ⟨hcs, rfl⟩ | ⟨a, len, cap, zs, hcs, _, hl, hm, hz, rfl, hcell, hwz⟩
  · obtain rfl : v = .slice none 0 0 := by simpa using hcs
    exact ⟨none, 0, [], rfl, by simp, ⟨rfl, by simp, fun h => absurd h (by simp)⟩, by simp, by simp [Rows.uptoBulk]⟩
  · obtain rfl : v = .slice (some a) len cap := by simpa using hcs
    simp only [if_true] at hz
    have hlen : (zs.take len).length = len := by rw [List.length_take]; omega
    simp only [maxLen] at hm
    refine ⟨some a, cap, zs.take len, by rw [hlen], by omega, ?_, fun y hy => hwz y (List.mem_of_mem_take hy), ?_⟩
    · refine Kd.C_of_reads (d := (0 : Int)) (h1 := fun _ => rfl) ⟨rfl, by omega, fun hp => ⟨a, rfl, fun j hj => ?_⟩⟩
      rw [hlen] at hj
      rw [hcell j (by omega)]
      simp [List.getD_eq_getElem?_getD, List.getElem?_take, hj]
    · have h1 := bulk_len (lits (H := H) .u8 (zs.take len))
      have h2 : (lits (H := H) .u8 (zs.take len)).length = len := by simp only [lits, List.length_map]; exact hlen
      simp only [Rows.uptoBulk]
      omega
theorem rows_of {H : Type} {enc : TypeId × Value → H} {W : World} {fuel : Nat} {v : Value} {x : DataW H × List MemPlace} (h : DataW.trod enc Try.prog W 0 (fun _ => true) true fuel 22 [v] = some x) :
    ∃ (A : Option Addr) (c : Nat) (l : List (List Int)), v = .slice A l.length c ∧ l.length ≤ c ∧ Kd.C (Kd.slice 5 (Kd.int .u8)) W A l.length l ∧ (∀ r ∈ l, ∀ y ∈ r, (Lit.int .u8 y).wf = true) ∧ l.length + l.flatten.length ≤ Rows.uptoBulk x.1 := by
  rcases open_slice Try.underlying22 h with ⟨hcs, rfl⟩ | ⟨a, len, cap, m, n, D, Pl, hcs, _, hl, hm, hmm, rfl, hi⟩
  · obtain rfl : v = .slice none 0 0 := by simpa using hcs
    exact ⟨none, 0, [], rfl, by simp, ⟨rfl, by simp, fun h => absurd h (by simp)⟩, by simp, by simp [Rows.uptoBulk]⟩
  · obtain rfl : v = .slice (some a) len cap := by simpa using hcs
    simp only [if_true] at hmm
    subst hmm
    have c22 : Try.prog.cellsOf 24 = 1 := by kernel_rfl
    have key : ∀ i, i < m → ∃ r : List Int, (∃ c : List Value, c.length = 1 ∧ (Kd.slice 5 (Kd.int .u8)).K W r c ∧ ∀ (j : Nat) (u : Value), c[j]? = some u → W.cell? (a.add (i * 1 + j)) = some u) ∧ (∀ y ∈ r, (Lit.int .u8 y).wf = true) ∧ 1 + r.length ≤ Rows.uptoBulk (D i) := by
      intro i him
      obtain ⟨cs', hc, ht⟩ := hi i him
      rw [c22] at hc
      obtain ⟨_, hcl, hat⟩ := World.cells?_some hc
      obtain ⟨v0, rfl⟩ : ∃ v0, cs' = [v0] := by
        match cs', hcl with
        | [v0], _ => exact ⟨v0, rfl⟩
      obtain ⟨A2, c2, l2, rfl, hl2, hC2, hw2, hb2⟩ := bytes_of ht
      refine ⟨l2, ⟨_, rfl, ⟨A2, c2, rfl, hl2, hC2⟩, fun j u hj => ?_⟩, hw2, by simp only at hb2; omega⟩
      have hj1 : j < 1 := by have := (List.getElem?_eq_some_iff.1 hj).1; simpa using this
      have := hat j hj1
      rw [Go.Deep.add_add] at this
      rw [this]
      exact hj
    obtain ⟨f, hfn⟩ := choose_lt key
    simp only [maxLen] at hm
    have hlr : ((List.range len).map f).length = len := by simp
    refine ⟨some a, m, (List.range len).map f, by rw [hlr], by rw [hlr]; exact hl, ⟨rfl, by rw [hlr]; omega, fun hp => ⟨a, rfl, fun j p hj => ?_⟩⟩, fun p hp => ?_, ?_⟩
    · obtain ⟨hjl, hje⟩ := List.getElem?_eq_some_iff.1 hj
      rw [hlr] at hjl
      obtain rfl : f j = p := by simpa using hje
      exact (hfn j (by omega)).1
    · obtain ⟨j, hj, rfl⟩ := List.mem_map.1 hp
      exact (hfn j (by have := List.mem_range.1 hj; omega)).2.1
    · have h1 := bulk_map D (fun i => 1 + (f i).length) (List.range len) (fun i hi => (hfn i (by have := List.mem_range.1 hi; omega)).2.2)
      have h2 : ∀ l : List Nat, (l.map fun i => 1 + (f i).length).sum = l.length + (l.map f).flatten.length := by
        intro l
        induction l with
        | nil => rfl
        | cons y r ih =>
          simp only [List.map_cons, List.sum_cons, ih, List.length_cons, List.flatten_cons, List.length_append]
          omega
      rw [h2, List.length_range] at h1
      rw [hlr]
      simp only [Rows.uptoBulk]
      omega
end Go.Proofs.Ytpehkbkbfpbolaa.Ow
