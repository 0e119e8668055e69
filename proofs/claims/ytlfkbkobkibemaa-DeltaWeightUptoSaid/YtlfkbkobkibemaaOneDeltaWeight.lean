/- The row of turnpikelaw21.DeltaWeight, in the second form, with the plain law ahead. -/
import Derived.Test.YtlfkbkobkibemaaRows
import Derived.Test.YtlfkbkobkibemaaDfT
import Derived.Deep.Slices
import Derived.ProofKit
import Derived.OpenShut
import Derived.Test.YtlfkbkobkibemaaAp
import Derived.Test.YtlfkbkobkibemaaPTx15
import Derived.Test.YtlfkbkobkibemaaPTx11
import Derived.Test.YtlfkbkobkibemaaPTx20
import Derived.Test.YtlfkbkobkibemaaPTx24
import Derived.Test.YtlfkbkobkibemaaPTx35
import Derived.WalkKit
import Derived.Below
import Derived.JoinedCond
set_option linter.unusedSimpArgs false
set_option linter.unusedVariables false
namespace Go.Proofs.Ytlfkbkobkibemaa.Op
open Go.ChangeShapes Go.WideShapes Go.ChangeAt Go.RowKit Go.Deep Go.Proofs.Ytlfkbkobkibemaa.PT Go.Proofs.Ytlfkbkobkibemaa.Df Go.Proofs.YtlfkbkobkibemaaW.PrintWords
theorem bulk_one {H : Type} (d : DataW H) : 1 ≤ Rows.uptoBulk d := by
  cases d with
  | lit l => cases l <;> simp [Rows.uptoBulk]
  | nil => simp [Rows.uptoBulk]
  | ptr d => simp [Rows.uptoBulk]
  | slice elems spare => simp [Rows.uptoBulk]
  | agg parts => simp [Rows.uptoBulk]
  | iface t d => simp [Rows.uptoBulk]
  | map entries => simp [Rows.uptoBulk]
  | held h => simp [Rows.uptoBulk]
theorem bulk_len {H : Type} : ∀ l : List (DataW H), l.length ≤ Rows.uptoBulkAll l
  | [] => by simp [Rows.uptoBulkAll]
  | x :: r => by
    have := bulk_one x
    have := bulk_len r
    simp only [Rows.uptoBulkAll, List.length_cons]
    omega
theorem bulk_map {H : Type} (D : Nat → DataW H) (n : Nat → Nat) : ∀ l : List Nat, (∀ i ∈ l, n i ≤ Rows.uptoBulk (D i)) → (l.map n).sum ≤ Rows.uptoBulkAll (l.map D)
  | [], _ => by simp [Rows.uptoBulkAll]
  | x :: r, h => by
    have h1 := h x (by simp)
    have h2 := bulk_map D n r (fun i hi => h i (by simp [hi]))
    simp only [List.map_cons, List.sum_cons, Rows.uptoBulkAll]
    omega
/-- What a row of bytes reads as. -/
theorem bytes_of {H : Type} {enc : TypeId × Value → H} {W : World} {fuel : Nat} {v : Value} {x : DataW H × List MemPlace} (h : DataW.trod enc Try.prog W 0 (fun _ => true) true fuel 22 [v] = some x) :
    ∃ (A : Option Addr) (c : Nat) (l : List Int), v = .slice A l.length c ∧ l.length ≤ c ∧ Kd.C (Kd.int .u8) W A l.length l ∧ (∀ y ∈ l, (Lit.int .u8 y).wf = true) ∧ l.length + 1 ≤ Rows.uptoBulk x.1 := by
  rcases open_ints Try.underlying22 Try.underlying5 (by kernel_rfl) h with ⟨hcs, rfl⟩ | ⟨a, len, cap, zs, hcs, _, hl, hm, hz, rfl, hcell, hwz⟩
  · obtain rfl : v = .slice none 0 0 := by simpa using hcs
    exact ⟨none, 0, [], rfl, by simp, ⟨rfl, by simp, fun h => absurd h (by simp)⟩, by simp, by simp [Rows.uptoBulk]⟩
  · obtain rfl : v = .slice (some a) len cap := by simpa using hcs
    simp only [if_true] at hz
    have hlen : (zs.take len).length = len := by rw [List.length_take]; omega
    simp only [maxLen] at hm
    refine ⟨some a, cap, zs.take len, by rw [hlen], by omega, ?_, fun y hy => hwz y (List.mem_of_mem_take hy), ?_⟩
    · refine Kd.C_of_reads (d := (0 : Int)) (h1 := fun _ => rfl) ⟨rfl, by omega, fun hp => ⟨a, rfl, fun j hj => ?_⟩⟩
      rw [hlen] at hj
      rw [hcell j (by omega)]
      simp [List.getD_eq_getElem?_getD, List.getElem?_take, hj]
    · have h1 := bulk_len (lits (H := H) .u8 (zs.take len))
      have h2 : (lits (H := H) .u8 (zs.take len)).length = len := by simp only [lits, List.length_map]; exact hlen
      simp only [Rows.uptoBulk]
      omega
theorem patches_of {H : Type} {enc : TypeId × Value → H} {W : World} {fuel : Nat} {v : Value} {x : DataW H × List MemPlace} (h : DataW.trod enc Try.prog W 0 (fun _ => true) true fuel 24 [v] = some x) :
    ∃ (A : Option Addr) (c : Nat) (l : List S33), v = .slice A l.length c ∧ l.length ≤ c ∧ Kd.C k33 W A l.length l ∧ (∀ p ∈ l, (Lit.int .i64 p.f0).wf = true ∧ (Lit.int .i64 p.f1).wf = true ∧ ∀ y ∈ p.f2, (Lit.int .u8 y).wf = true) ∧ l.length + wsum l ≤ Rows.uptoBulk x.1 := by
  rcases open_slice Try.underlying24 h with ⟨hcs, rfl⟩ | ⟨a, len, cap, m, n, D, Pl, hcs, _, hl, hm, hmm, rfl, hi⟩
  · obtain rfl : v = .slice none 0 0 := by simpa using hcs
    exact ⟨none, 0, [], rfl, by simp, ⟨rfl, by simp, fun h => absurd h (by simp)⟩, by simp, by simp [Rows.uptoBulk, wsum]⟩
  · obtain rfl : v = .slice (some a) len cap := by simpa using hcs
    simp only [if_true] at hmm
    subst hmm
    have c33 : Try.prog.cellsOf 33 = 3 := by kernel_rfl
    have c3 : Try.prog.cellsOf 3 = 1 := by kernel_rfl
    have c22 : Try.prog.cellsOf 22 = 1 := by kernel_rfl
    have key : ∀ i, i < m → ∃ p : S33, (∃ c : List Value, c.length = 3 ∧ k33.K W p c ∧ ∀ (j : Nat) (u : Value), c[j]? = some u → W.cell? (a.add (i * 3 + j)) = some u) ∧ ((Lit.int .i64 p.f0).wf = true ∧ (Lit.int .i64 p.f1).wf = true ∧ ∀ y ∈ p.f2, (Lit.int .u8 y).wf = true) ∧ 1 + p.f2.length ≤ Rows.uptoBulk (D i) := by
      intro i him
      obtain ⟨cs', hc, ht⟩ := hi i him
      rw [c33] at hc
      obtain ⟨ys, n', _, hy, _, hyl, hf⟩ := DataW.trod_struct Try.underlying33 ht
      obtain ⟨_, hcl, hat⟩ := World.cells?_some hc
      obtain ⟨v0, v1, v2, rfl⟩ : ∃ v0 v1 v2, cs' = [v0, v1, v2] := by
        match cs', hcl with
        | [v0, v1, v2], _ => exact ⟨v0, v1, v2, rfl⟩
      obtain ⟨y0, y1, y2, rfl⟩ : ∃ y0 y1 y2, ys = [y0, y1, y2] := by
        match ys, hyl with
        | [y0, y1, y2], _ => exact ⟨y0, y1, y2, rfl⟩
      have f0 : DataW.trod enc Try.prog W 0 (fun _ => true) true n' 3 [v0] = some y0 := by simpa [c3] using hf 0 _ rfl
      have f1 : DataW.trod enc Try.prog W 0 (fun _ => true) true n' 3 [v1] = some y1 := by simpa [c3] using hf 1 _ rfl
      have f2 : DataW.trod enc Try.prog W 0 (fun _ => true) true n' 22 [v2] = some y2 := by simpa [c22] using hf 2 _ rfl
      obtain ⟨x0, e0, rfl, w0⟩ := DataW.trod_int Try.underlying3 f0
      obtain ⟨x1, e1, rfl, w1⟩ := DataW.trod_int Try.underlying3 f1
      obtain ⟨A2, c2, l2, rfl, hl2, hC2, hw2, hb2⟩ := bytes_of f2
      obtain rfl : v0 = .int .i64 x0 := by simpa using e0
      obtain rfl : v1 = .int .i64 x1 := by simpa using e1
      refine ⟨⟨x0, x1, l2⟩, ⟨_, rfl, k33_mk W ⟨x0, x1, l2⟩ hl2 hC2, fun j u hj => ?_⟩, ⟨w0, w1, hw2⟩, ?_⟩
      · have hj3 : j < 3 := by have := (List.getElem?_eq_some_iff.1 hj).1; simpa using this
        have := hat j hj3
        rw [Go.Deep.add_add] at this
        rw [this]
        exact hj
      · simp only [Prod.mk.injEq] at hy
        rw [hy.1]
        simp only [List.map_cons, List.map_nil, Rows.uptoBulk, Rows.uptoBulkAll]
        omega
    have hinh : Inhabited S33 := ⟨⟨0, 0, []⟩⟩
    obtain ⟨f, hfn⟩ := choose_lt key
    simp only [maxLen] at hm
    have hlr : ((List.range len).map f).length = len := by simp
    refine ⟨some a, m, (List.range len).map f, by rw [hlr], by rw [hlr]; exact hl, ⟨rfl, by rw [hlr]; omega, fun hp => ⟨a, rfl, fun j p hj => ?_⟩⟩, fun p hp => ?_, ?_⟩
    · obtain ⟨hjl, hje⟩ := List.getElem?_eq_some_iff.1 hj
      rw [hlr] at hjl
      obtain rfl : f j = p := by simpa using hje
      exact (hfn j (by omega)).1
    · obtain ⟨j, hj, rfl⟩ := List.mem_map.1 hp
      exact (hfn j (by have := List.mem_range.1 hj; omega)).2.1
    · have h1 := bulk_map D (fun i => 1 + (f i).f2.length) (List.range len) (fun i hi => (hfn i (by have := List.mem_range.1 hi; omega)).2.2)
      have h2 : ∀ l : List Nat, (l.map fun i => 1 + (f i).f2.length).sum = l.length + wsum (l.map f) := by
        intro l
        induction l with
        | nil => rfl
        | cons y r ih =>
          simp only [List.map_cons, List.sum_cons, ih, List.length_cons, wsum]
          omega
      rw [h2, List.length_range] at h1
      rw [hlr]
      simp only [Rows.uptoBulk]
      omega
end Go.Proofs.Ytlfkbkobkibemaa.Op

set_option linter.unusedSimpArgs false
set_option linter.unusedVariables false
namespace Go.Proofs.Ytlfkbkobkibemaa.Aq
open Go.RowKit Go.Proofs.Ytlfkbkobkibemaa.PT Go.Proofs.Ytlfkbkobkibemaa.Pl Go.Proofs.Ytlfkbkobkibemaa.Cr Go.Proofs.Ytlfkbkobkibemaa.Dw Go.Proofs.Ytlfkbkobkibemaa.Df Go.Proofs.Ytlfkbkobkibemaa.Pq Go.Proofs.Ytlfkbkobkibemaa.Pr Go.Proofs.Ytlfkbkobkibemaa.Ap Go.Proofs.YtlfkbkobkibemaaW.PrintWords Go.Proofs.YtlfkbkobkibemaaW.PrintLast Go.Proofs.YtlfkbkobkibemaaW.PrintMore
theorem wsum_drop_le (l : List P3) (i : Nat) : wsum (l.drop i) ≤ wsum l := by
  induction l generalizing i with
  | nil => simp
  | cons p ps ih =>
    cases i with
    | zero => simp
    | succ i =>
      rw [List.drop_succ_cons, wsum_cons]
      have := ih i
      omega
theorem few_l0 (l : List P3) (hl : l.length ≤ 140737488355328) (hw : wsum l ≤ 1000000000) : ∀ (d k i n : Nat), i + d = l.length → d < k → n + wsum (l.drop i) = wsum l → i ≤ 500 → turnpikelaw21_few.l0 k l (n : Int) (i : Int) = some (decide (l.length < 500 ∧ wsum l < 32768))
  | 0, k, i, n, hi, hk, hn, h5 => by
    obtain ⟨k, rfl⟩ : ∃ m, k = m + 1 := ⟨k - 1, by omega⟩
    simp only [turnpikelaw21_few.l0]
    rw [List.drop_eq_nil_of_le (by omega)] at hn
    rw [if_neg (by omega)]
    have hn' : n = wsum l := by simpa [wsum] using hn
    subst hn'
    by_cases c : l.length < 500
    · rw [if_pos (by omega)]
      simp only [Option.some.injEq, decide_eq_decide]
      omega
    · rw [if_neg (by omega), decide_eq_false (by omega)]
  | d + 1, k, i, n, hi, hk, hn, h5 => by
    obtain ⟨k, rfl⟩ : ∃ m, k = m + 1 := ⟨k - 1, by omega⟩
    simp only [turnpikelaw21_few.l0]
    rw [if_pos (by omega)]
    by_cases c : i < 500
    · have hd := drop_cons l i (by omega)
      rw [hd, wsum_cons] at hn
      rw [if_pos (by omega), if_pos (by omega), w64 (x := (n : Int) + ((rd_T33 l (i : Int)).f2.length : Int)) (by omega) (by omega), w64 (x := (i : Int) + 1) (by omega) (by omega)]
      rw [show (n : Int) + ((rd_T33 l (i : Int)).f2.length : Int) = ((n + (rd_T33 l (i : Int)).f2.length : Nat) : Int) by omega, show (i : Int) + 1 = ((i + 1 : Nat) : Int) by omega]
      exact few_l0 l hl hw d k (i + 1) _ (by omega) (by omega) (by omega) (by omega)
    · rw [if_neg (by omega), if_neg (by omega), decide_eq_false (by omega)]
theorem few_ev (l : List P3) (hl : l.length ≤ 140737488355328) (hw : wsum l ≤ 1000000000) : Ev (fun k => turnpikelaw21_few.f k l) (decide (l.length < 500 ∧ wsum l < 32768)) :=
  ⟨l.length + 1, fun k hk => few_l0 l hl hw l.length k 0 0 (by omega) (by omega) (by simp) (by omega)⟩
theorem twin_l0 (l : List P3) (hl : l.length ≤ 1000000000) (hw : wsum l ≤ 1000000000) : ∀ (d k i : Nat) (x : List P3), i + d = l.length → d < k → x = l.take i → turnpikelaw21_twin.l0 k l x (i : Int) = some l
  | 0, k, i, x, hi, hk, hx => by
    obtain ⟨k, rfl⟩ : ∃ m, k = m + 1 := ⟨k - 1, by omega⟩
    simp only [turnpikelaw21_twin.l0]
    rw [if_neg (by omega), hx, List.take_of_length_le (by omega)]
  | d + 1, k, i, x, hi, hk, hx => by
    obtain ⟨k, rfl⟩ : ∃ m, k = m + 1 := ⟨k - 1, by omega⟩
    have hlt : i < l.length := by omega
    have e : rd_T33 l (i : Int) = l[i] := by simp [rd_T33, List.getD_eq_getElem?_getD, List.getElem?_eq_getElem hlt]
    have hwl : l[i].f2.length ≤ wsum l := by
      have h1 := wsum_drop_le l i
      rw [drop_cons l i hlt, wsum_cons, e] at h1
      omega
    have hxl : x.length = i := by rw [hx, List.length_take]; omega
    simp only [turnpikelaw21_twin.l0]
    rw [if_pos (by omega), if_pos (by omega)]
    simp only [Option.bind_some, List.nil_append, List.length_nil, Nat.zero_add]
    rw [e, if_pos (by omega), if_pos (by omega), w64 (x := (i : Int) + 1) (by omega) (by omega), show (i : Int) + 1 = ((i + 1 : Nat) : Int) by omega]
    refine twin_l0 l hl hw d k (i + 1) _ (by omega) (by omega) ?_
    rw [List.take_succ_eq_append_getElem hlt, hx]
theorem twin_ev (l : List P3) (hl : l.length ≤ 1000000000) (hw : wsum l ≤ 1000000000) : Ev (fun k => turnpikelaw21_twin.f k l) l :=
  ⟨l.length + 1, fun k hk => twin_l0 l hl hw l.length k 0 [] (by omega) (by omega) (by simp)⟩
theorem rapply_l0 (l : List P3) (hl : l.length ≤ 140737488355328) : ∀ (d k i : Nat) (a out : List Int), i + d = l.length → d < k → fitS (a.length : Int) (l.drop i) = true → out.length + a.length + wsum (l.drop i) ≤ 1000000000 →
    turnpikeref21_Apply.l0 k a l out (i : Int) = some (out ++ applyL a (l.drop i), 0)
  | 0, k, i, a, out, hi, hk, hf, hb => by
    obtain ⟨k, rfl⟩ : ∃ m, k = m + 1 := ⟨k - 1, by omega⟩
    simp only [turnpikeref21_Apply.l0]
    rw [if_neg (by omega), List.drop_eq_nil_of_le (by omega), if_pos (by omega)]
    rfl
  | d + 1, k, i, a, out, hi, hk, hf, hb => by
    obtain ⟨k, rfl⟩ : ∃ m, k = m + 1 := ⟨k - 1, by omega⟩
    rw [drop_cons l i (by omega)] at hf hb ⊢
    rw [wsum_cons] at hb
    simp only [turnpikeref21_Apply.l0]
    rw [if_pos (by omega), if_pos (by omega)]
    generalize rd_T33 l (i : Int) = p at *
    obtain ⟨h1, h2, h3, h4, h5⟩ := fitS_cons hf
    rw [if_pos h1, if_pos h2]
    simp only [Option.bind_some]
    have ht : (a.take p.f0.toNat).length = p.f0.toNat := by rw [List.length_take]; omega
    rw [ht, if_pos (by omega), List.length_append, ht, if_pos (by omega), w64 (x := p.f0 + p.f1) (by omega) (by omega), if_pos (by omega), if_pos (by omega), w64 (x := (i : Int) + 1) (by omega) (by omega), show (i : Int) + 1 = ((i + 1 : Nat) : Int) by omega]
    have hd : (a.drop (p.f0 + p.f1).toNat).length = a.length - (p.f0 + p.f1).toNat := List.length_drop
    rw [rapply_l0 l hl d k (i + 1) _ _ (by omega) (by omega) (by rw [hd, show ((a.length - (p.f0 + p.f1).toNat : Nat) : Int) = (a.length : Int) - (p.f0 + p.f1) by omega]; exact h5) (by rw [hd]; simp only [List.length_append, ht]; omega)]
    simp only [applyL, List.append_assoc]
theorem rapply_ev (a : List Int) (l : List P3) (hl : l.length ≤ 140737488351232) (hb : a.length + wsum l ≤ 1000000000) : Ev (fun k => turnpikeref21_Apply.f k a l) (if fitS (a.length : Int) l then (applyL a l, 0) else ([], 33)) := by
  obtain ⟨K, hK⟩ := rfit_ev (a.length : Int) l (by omega) (by omega) (by omega)
  refine ⟨K + l.length + 1, fun k hk => ?_⟩
  show turnpikeref21_Apply.f k a l = _
  unfold turnpikeref21_Apply.f
  rw [show turnpikeref21_Fit.f k (a.length : Int) l = _ from hK k (by omega), Option.bind_some]
  by_cases hf : fitS (a.length : Int) l = true
  · rw [if_pos hf, if_pos hf]
    have h := rapply_l0 l (by omega) l.length k 0 a [] (by omega) (by omega) (by simpa using hf) (by simpa using hb)
    simpa using h
  · rw [if_neg hf, if_neg hf]
theorem be4_mod (v : Int) : db_be4 (v % 4294967296) = db_be4 v := by
  unfold db_be4
  rw [show v % 4294967296 / 16777216 % 256 = v / 16777216 % 256 by omega, show v % 4294967296 / 65536 % 256 = v / 65536 % 256 by omega, show v % 4294967296 / 256 % 256 = v / 256 % 256 by omega, show v % 4294967296 % 256 = v % 256 by omega]
theorem rbytes_l0 (l : List P3) (hl : l.length ≤ 1000000000) (hp : ∀ p ∈ l, Bytes p.f2) : ∀ (d k i : Nat) (out : List Int), i + d = l.length → out.length + 12 * d + wsum (l.drop i) ≤ 1000000000 → d + 1000000100 < k → Bytes out →
    turnpikeref21_Bytes.l0 k l out (i : Int) = some (out ++ body (l.drop i) ++ db_be4 (toI (crc (out ++ body (l.drop i)))), 0)
  | 0, k, i, out, hi, hb, hk, hob => by
    obtain ⟨k, rfl⟩ : ∃ m, k = m + 1 := ⟨k - 1, by omega⟩
    simp only [turnpikeref21_Bytes.l0]
    rw [if_neg (by omega), List.drop_eq_nil_of_le (by omega)]
    have hs : turnpikeref13_Sum.f k out = some (toI (crc out)) := sum_l0 out hob (by omega) out.length k 0 F (by omega) (by omega)
    rw [hs, Option.bind_some, put_some k (by omega) out _ (by omega), Option.bind_some]
    simp [body]
  | d + 1, k, i, out, hi, hb, hk, hob => by
    obtain ⟨k, rfl⟩ : ∃ m, k = m + 1 := ⟨k - 1, by omega⟩
    have hlt : i < l.length := by omega
    have hpi : Bytes (rd_T33 l (i : Int)).f2 := by
      have e : rd_T33 l (i : Int) = l[i] := by simp [rd_T33, List.getD_eq_getElem?_getD, List.getElem?_eq_getElem hlt]
      rw [e]
      exact hp _ (List.getElem_mem _)
    rw [drop_cons l i hlt] at hb ⊢
    rw [wsum_cons] at hb
    simp only [turnpikeref21_Bytes.l0]
    rw [if_pos (by omega), if_pos (by omega)]
    generalize rd_T33 l (i : Int) = p at *
    rw [put_some k (by omega) out _ (by omega), Option.bind_some, put_some k (by omega) _ _ (by rw [List.length_append, be4_len]; omega), Option.bind_some, put_some k (by omega) _ _ (by simp only [List.length_append, be4_len]; omega), Option.bind_some, be4_mod, be4_mod, be4_mod, if_pos (by simp only [List.length_append, be4_len]; omega), w64 (x := (i : Int) + 1) (by omega) (by omega), show (i : Int) + 1 = ((i + 1 : Nat) : Int) by omega]
    rw [rbytes_l0 l hl hp d k (i + 1) _ (by omega) (by simp only [List.length_append, be4_len]; omega) (by omega) (bytes_append (bytes_append (bytes_append (bytes_append hob (be4_bytes _)) (be4_bytes _)) (be4_bytes _)) hpi)]
    simp only [body, List.append_assoc]
theorem rbytes_ev {a : List Int} {l : List P3} (ha : Bytes a) (hp : ∀ p ∈ l, Bytes p.f2) (hl : a.length + 12 * l.length + wsum l ≤ 100000000) : Ev (fun k => turnpikeref21_Bytes.f k a l) (if fitS (a.length : Int) l then (enc a l, 0) else ([], 33)) := by
  obtain ⟨K, hK⟩ := rfit_ev (a.length : Int) l (by omega) (by omega) (by omega)
  obtain ⟨K2, hK2⟩ := sum_ev ha (by omega)
  refine ⟨K + K2 + l.length + 1000000200, fun k hk => ?_⟩
  show turnpikeref21_Bytes.f k a l = _
  unfold turnpikeref21_Bytes.f
  rw [show turnpikeref21_Fit.f k (a.length : Int) l = _ from hK k (by omega), Option.bind_some]
  by_cases hf : fitS (a.length : Int) l = true
  · rw [if_pos hf, if_pos hf, put_some k (by omega) [84, 80, 68, 49] _ (by simp), Option.bind_some, show turnpikeref13_Sum.f k a = _ from hK2 k (by omega), Option.bind_some, put_some k (by omega) _ _ (by simp [be4_len]), Option.bind_some, put_some k (by omega) _ _ (by simp [be4_len]), Option.bind_some, be4_mod, be4_mod]
    exact rbytes_l0 l (by omega) hp l.length k 0 (head a l.length) (by omega) (by rw [head_len, List.drop_zero]; omega) (by omega) (head_bytes a l.length)
  · rw [if_neg hf, if_neg hf]
end Go.Proofs.Ytlfkbkobkibemaa.Aq

set_option linter.unusedSimpArgs false
set_option linter.unusedVariables false
namespace Go.Proofs.Ytlfkbkobkibemaa.Pure
open Go.RowKit Go.Proofs.Ytlfkbkobkibemaa.PT Go.Proofs.Ytlfkbkobkibemaa.Pl Go.Proofs.Ytlfkbkobkibemaa.Df Go.Proofs.Ytlfkbkobkibemaa.Pq Go.Proofs.Ytlfkbkobkibemaa.Pr Go.Proofs.Ytlfkbkobkibemaa.Ap Go.Proofs.Ytlfkbkobkibemaa.Aq Go.Proofs.YtlfkbkobkibemaaW.PrintWords Go.Proofs.YtlfkbkobkibemaaW.PrintLast
def cuts : List P3 → Int
  | [] => 0
  | p :: ps => p.f1 + cuts ps
theorem cuts_bound : ∀ {l : List P3} {n : Int}, fitS n l = true → 0 ≤ n → 0 ≤ cuts l ∧ cuts l ≤ n
  | [], n, _, h => by simp only [cuts]; omega
  | p :: ps, n, h, hn => by
    obtain ⟨h1, h2, h3, h4, h5⟩ := fitS_cons h
    have := cuts_bound h5 (by omega)
    simp only [cuts]
    omega
theorem apply_len : ∀ {l : List P3} {a : List Int}, fitS (a.length : Int) l = true → ((applyL a l).length : Int) = (a.length : Int) + (wsum l : Int) - cuts l
  | [], a, _ => by simp [applyL, wsum, cuts]
  | p :: ps, a, h => by
    obtain ⟨h1, h2, h3, h4, h5⟩ := fitS_cons h
    have hd : (a.drop (p.f0 + p.f1).toNat).length = a.length - (p.f0 + p.f1).toNat := List.length_drop
    have ih := apply_len (l := ps) (a := a.drop (p.f0 + p.f1).toNat) (by rw [hd, show ((a.length - (p.f0 + p.f1).toNat : Nat) : Int) = (a.length : Int) - (p.f0 + p.f1) by omega]; exact h5)
    have ht : (a.take p.f0.toNat).length = p.f0.toNat := by rw [List.length_take]; omega
    rw [hd] at ih
    simp only [applyL, cuts, wsum_cons, List.length_append, ht]
    omega
theorem weight_l0' (a : List Int) (l : List P3) (x : List Int) (ha : Bytes a) (hp : ∀ p ∈ l, Bytes p.f2) (h0 : a.length ≤ 1048576) (h1 : l.length + wsum l ≤ 1048576) (hf : fitS (a.length : Int) l = true) (hx : (x.length : Int) = (a.length : Int) + (wsum l : Int) - cuts l) (K : Nat)
    (e1 : ∀ k, K ≤ k → delta_Bytes.f k a l = some (enc a l, 0)) (e2 : ∀ k, K ≤ k → delta_Parse.f k a (enc a l) = some (l, 0)) (e3 : ∀ k, K ≤ k → turnpikelaw21_Same.f k l l = some true) : ∀ (d k i : Nat) (n m : Int), i + d = l.length → d + K < k → m = cuts (l.drop i) → n - m = (x.length : Int) → 0 ≤ n → n ≤ 4000000 → (∃ m', fitS m' (l.drop i) = true ∧ 0 ≤ m' ∧ m' ≤ 2000000) →
    turnpikelaw21_DeltaWeight.l0 k a l x 0 n (i : Int) = some true
  | 0, k, i, n, m, hi, hk, hm, hn, hn0, hn1, _ => by
    obtain ⟨k, rfl⟩ : ∃ m, k = m + 1 := ⟨k - 1, by omega⟩
    simp only [turnpikelaw21_DeltaWeight.l0]
    rw [List.drop_eq_nil_of_le (by omega)] at hm
    simp only [cuts] at hm
    rw [if_neg (by omega), e1 k (by omega), Option.bind_some, e2 k (by omega), Option.bind_some]
    simp only [if_true]
    rw [if_pos (by omega), e3 k (by omega)]
    rfl
  | d + 1, k, i, n, m, hi, hk, hm, hn, hn0, hn1, ⟨m', hf', hm0, hm1⟩ => by
    obtain ⟨k, rfl⟩ : ∃ m, k = m + 1 := ⟨k - 1, by omega⟩
    simp only [turnpikelaw21_DeltaWeight.l0]
    rw [if_pos (by omega), if_pos (by omega)]
    rw [drop_cons l i (by omega)] at hm hf'
    obtain ⟨q1, q2, q3, q4, q5⟩ := fitS_cons hf'
    have hb := cuts_bound q5 (by omega)
    simp only [cuts] at hm
    rw [w64 (x := n - (rd_T33 l (i : Int)).f1) (by omega) (by omega), w64 (x := (i : Int) + 1) (by omega) (by omega)]
    rw [show (i : Int) + 1 = ((i + 1 : Nat) : Int) by omega]
    exact weight_l0' a l x ha hp h0 h1 hf hx K e1 e2 e3 d k (i + 1) _ (cuts (l.drop (i + 1))) (by omega) (by omega) rfl (by omega) (by omega) (by omega) ⟨_, q5, by omega, by omega⟩
theorem DeltaWeight (a : List Int) (l : List P3) (ha : Bytes a) (hp : ∀ p ∈ l, Bytes p.f2) (h0 : a.length ≤ 1048576) (h1 : l.length + wsum l ≤ 1048576) : ∃ k, turnpikelaw21_DeltaWeight.f k a l = some true := by
  obtain ⟨K1, e1⟩ := few_ev l (by omega) (by omega)
  obtain ⟨K2, e2⟩ := rfit_ev (a.length : Int) l (by omega) (by omega) (by omega)
  obtain ⟨K3, e3⟩ := apply_ev a l (by omega) (by omega)
  obtain ⟨K4, e4⟩ := bytes_ev (l := l) ha hp (by omega)
  obtain ⟨K5, e5⟩ := weight_ev l (by omega) (by omega)
  have hel := enc_len a l
  obtain ⟨K6, e6⟩ := parse_ev (b := enc a l) ha (enc_bytes a hp) (by omega) (by omega)
  obtain ⟨K7, e7⟩ := same_ev l (by omega)
  obtain ⟨K, hK⟩ : ∃ K, K = K1 + K2 + K3 + K4 + K5 + K6 + K7 + 10 := ⟨_, rfl⟩
  have jt : turnpikelaw21_DeltaWeight.j0 (K + l.length + 2) a l true = some true := by simp only [turnpikelaw21_DeltaWeight.j0, if_true]
  refine ⟨K + l.length + 2, ?_⟩
  unfold turnpikelaw21_DeltaWeight.f turnpikelaw21_known.f
  simp only [Option.bind_some, if_true]
  by_cases c : (a.length : Int) > 32768
  · rw [if_pos c]; exact jt
  rw [if_neg c, show turnpikelaw21_few.f (K + l.length + 2) l = _ from e1 _ (by omega), Option.bind_some]
  by_cases f : l.length < 500 ∧ wsum l < 32768
  · rw [decide_eq_true f]
    simp only [turnpikelaw21_DeltaWeight.j0, Bool.not_true, Bool.false_eq_true, if_false]
    rw [show delta_Apply.f (K + l.length + 1) a l = _ from e3 _ (by omega), Option.bind_some, show turnpikeref21_Fit.f (K + l.length + 1) (a.length : Int) l = _ from e2 _ (by omega), Option.bind_some]
    by_cases hf : fitS (a.length : Int) l = true
    · rw [if_pos hf, if_pos hf, show delta_Weight.f (K + l.length + 1) l = _ from e5 _ (by omega), Option.bind_some, w64 (by omega) (by omega)]
      rw [hf] at e4
      rw [parse_enc ha hp (by omega) hf] at e6
      have hx := apply_len hf
      have hc := cuts_bound hf (by omega)
      exact weight_l0' a l (applyL a l) ha hp h0 h1 hf hx K (fun k hk => e4 k (by omega)) (fun k hk => e6 k (by omega)) (fun k hk => e7 k (by omega)) l.length (K + l.length + 1) 0 _ (cuts l) (by omega) (by omega) rfl (by omega) (by omega) (by omega) ⟨_, hf, by omega, by omega⟩
    · rw [if_neg hf, if_neg hf]
      rfl
  · rw [decide_eq_false f]
    exact jt
end Go.Proofs.Ytlfkbkobkibemaa.Pure

namespace Go.Proofs.Ytlfkbkobkibemaa.deltaWeight
open Go.ChangeShapes Go.WideShapes Go.ChangeAt Go.RowKit Go.Proofs.Ytlfkbkobkibemaa.PT Go.Proofs.Ytlfkbkobkibemaa.Pl
set_option linter.unusedVariables false
theorem own : ownKnob Try.prog.godebug = none := by kernel_rfl
theorem laidOut : laidOutB Try.prog = true := by kernel_rfl
theorem contract (H : Type) (enc : TypeId × Value → H) (W : World) (base : Nat) (args : Array Value) (ds gs : List (DataW H)) (before : List MemPlace)
    (hval : ∀ (j : Nat) t v, Try.f10.params[j]? = some t → args[j]? = some v → Value.okWide Try.prog W .any base t v)
    (hW : DataW.Whole enc Try.prog Try.f10.params.toList Rows.deltaWeightSpec.vars false W args.toList ds gs before) (hk : Rows.uptoSmall H (ds ++ gs) = true) :
    Calls Try.prog 10 args W fun e W' => ∃ v, e = .returned v ∧ Rows.deltaWeightSpec.post enc Try.prog Try.f10 false true false false W args v W' := by
  have hW' := hW
  obtain ⟨p, q, hA0, hV, rfl, hfz, hnd⟩ := hW
  have hA : DataW.TrodAll enc Try.prog W 0 (fun _ => true) true Try.f10.params.toList args.toList ds p := hA0
  rw [Try.params10] at hA hval
  obtain ⟨v0, vs0, d0, ds0, p0, q0, hargs, rfl, rfl, h0, r0⟩ := trodAll_cons hA
  obtain ⟨v1, vs1, d1, ds1, p1, q1, rfl, rfl, rfl, h1, r1⟩ := trodAll_cons r0
  obtain ⟨rfl, rfl, rfl⟩ := trodAll_nil r1
  obtain rfl : args = #[v0, v1] := by cases args; simp_all
  obtain ⟨rfl, rfl⟩ := trodVars_none hV
  obtain ⟨b0, n0, e0, rfl⟩ := okWide_slice Try.underlying22 (hval 0 22 v0 rfl rfl)
  obtain ⟨b1, n1, e1, rfl⟩ := okWide_slice Try.underlying24 (hval 1 24 v1 rfl rfl)
  have k0 := h0
  have k1 := h1
  have lt0 : ∀ x ∈ p0, x.block < W.heap.size := by obtain ⟨m, hm⟩ := k0; exact DataW.trod_lt m _ _ _ hm
  have lt1 : ∀ x ∈ p1, x.block < W.heap.size := by obtain ⟨m, hm⟩ := k1; exact DataW.trod_lt m _ _ _ hm
  obtain ⟨m0, t0⟩ := h0
  obtain ⟨m1, t1⟩ := h1
  obtain ⟨A0, c0, l0, E0, hc0, hr0, hw0, hb0⟩ := Op.bytes_of t0
  cases E0
  obtain ⟨A1, c1, l1, E1, hc1, hr1, hw1, hb1⟩ := Op.patches_of t1
  cases E1
  have hs : Rows.uptoBulkAll [d0, d1] ≤ 1048576 := of_decide_eq_true hk
  simp only [Rows.uptoBulkAll] at hs
  simp only at hb0 hb1
  obtain ⟨k, h⟩ := Pure.DeltaWeight l0 l1 (bytes_of_wf hw0) (fun p hp => bytes_of_wf (hw1 p hp).2.2) (by omega) (by omega)
  clear hA0 hval hk
  refine (turnpikelaw21_DeltaWeight.calls k _ _ l0 _ _ l1 true W hr0 hc0 hr1 hc1 h).mono ?_
  rintro e W' ⟨rfl, bel⟩
  exact ⟨_, rfl, _, _, _, [], _, [], hW', trodAll_mk1 (shut_bool Try.underlying4 _), (trodAll_cons_mk (Below.trod laidOut (by kernel_rfl) (of_decide_eq_true (by kernel_rfl)) k0 bel lt0) (trodAll_cons_mk (Below.trod laidOut (by kernel_rfl) (of_decide_eq_true (by kernel_rfl)) k1 bel lt1) trodAll_mk0)), rfl, bel.frame _, fun h => by cases h⟩
set_option maxRecDepth 100000 in
theorem lifted (os : Os) (started : os.Started) (H : Type) (enc : TypeId × Value → H) (F : Stop.Interp) :
    ReturnsInHanded {} Try.checked os 10 .any ((Rows.OpenSpec.upto Rows.deltaWeightSpec).pre6 enc Try.prog Try.f10 Rows.deltaWeightUptoRow.domain false) (((Rows.OpenSpec.upto Rows.deltaWeightSpec).at F).post enc Try.prog Try.f10 false true false false) := by
  refine returnsInHanded_of_cond (C := Try.checked) (s := Rows.OpenSpec.upto Rows.deltaWeightSpec) (k := Rows.uptoSmall) rfl own started (by kernel_rfl) Try.func10
    (OpenSpec.witness (enc := enc) (C := Try.checked) (s := Rows.OpenSpec.upto Rows.deltaWeightSpec) (k := Rows.uptoSmall) rfl false ⟨#[], #[.slice none 0 0, .slice none 0 0], []⟩ 8 (by kernel_rfl) (by kernel_rfl) (by kernel_rfl)
      (x := ([.nil, .nil], [], [])) (by kernel_rfl) rfl (by kernel_rfl)) ?_
  intro W base args ds gs before hval hW _ hk _
  exact contract H enc W base args ds gs before hval hW hk
theorem proved : Rows.DeltaWeightUptoSaid :=
  OpenClaim.holds_of_cond 10 Try.f10 rfl rfl rfl rfl rfl rfl rfl ⟨rfl, rfl, rfl, rfl, rfl⟩ rfl rfl rfl rfl rfl (by kernel_rfl) Try.func10 (by kernel_rfl)
    (of_decide_eq_true (by kernel_rfl)) (by unfold Func.isWrapper; first | (rw [if_pos (by decide +kernel)]; kernel_rfl) | (rw [if_neg (by decide +kernel)]; exact ⟨rfl, rfl⟩))
    (fun os started H enc _ F => lifted os started H enc F)
#print axioms proved
end Go.Proofs.Ytlfkbkobkibemaa.deltaWeight
namespace Go.Proofs.Ytlfkbkobkibemaa
/-- The row, under a short name, for the claim. -/
theorem deltaWeight_holds : Rows.DeltaWeightUptoSaid := deltaWeight.proved
end Go.Proofs.Ytlfkbkobkibemaa
