-- Written by wip/xprint.py, a driver of this session's own over the kit's printer; Lean checks it.
import Derived.Test.YtpehkbkbfpbolaaPZx0
import Derived.Laws.BitsLemmas
import Derived.ScopeJumps
import Derived.WalkMore
import Derived.Deep.WholeRow
namespace Go.Proofs.Ytpehkbkbfpbolaa.PZ
open Go.Proofs.YtpehkbkbfpbolaaM Go.RowKit Go.Proofs.YtpehkbkbfpbolaaW.PrintWords Go.Proofs.YtpehkbkbfpbolaaW.PrintLast Go.Proofs.YtpehkbkbfpbolaaW.PrintMore
attribute [local go_sem] max2_int min2_int max_two min_two max_three min_three max_four min_four   -- for this text's walks alone
set_option linter.unusedVariables false
set_option linter.unusedSimpArgs false

/-! ### wire_Sum: function 16 (by hand) -/
-- IMPORT Derived.Laws.BitsLemmas
-- IMPORT Derived.ScopeJumps
-- IMPORT Derived.WalkMore
-- IMPORT Derived.Deep.WholeRow
open Go.Deep
def sm_st1 (c : Int) : Int := bits BinOp.xor IntKind.u32 (c / 2) (bits BinOp.and IntKind.u32 2197175160 (-bits BinOp.and IntKind.u32 c 1 % 4294967296))
def sm_it : Nat → Int → Int
  | 0, c => c
  | j + 1, c => sm_st1 (sm_it j c)
def sm_tab : List Int := [0, 274646895, 549293790, 820201905, 1098587580, 1361435347, 1640403810, 1905808397, 2197175160, 2460548119, 2722870694, 2987750089, 3280807620, 3553878443, 3811616794, 4084100981]
def sm_tv (i : Nat) : Int := sm_tab.getD i 0
theorem sm_tab_it : ∀ i : Nat, i < 16 → sm_it 4 (i : Int) = sm_tv i := by decide
def sm_cs (i : Nat) : Array Value := (((sm_tab.take i) ++ List.replicate (16 - i) 0).map (Value.int .u32)).toArray
theorem sm_cs_next {i : Nat} (h : i < 16) : (sm_cs i).setIfInBounds i (.int .u32 (sm_tv i)) = sm_cs (i + 1) := by
  rcases i with _ | _ | _ | _ | _ | _ | _ | _ | _ | _ | _ | _ | _ | _ | _ | _ | i
  all_goals first | rfl | omega
theorem sm_cs_at {i : Nat} (h : i < 16) : ∃ v, (sm_cs i)[i]? = some v := by
  refine ⟨(sm_cs i)[i]'?_, Array.getElem?_eq_getElem _⟩
  rcases i with _ | _ | _ | _ | _ | _ | _ | _ | _ | _ | _ | _ | _ | _ | _ | _ | i
  all_goals first | decide | omega
theorem sm_zero_cs : (#[Value.int IntKind.u32 0, Value.int IntKind.u32 0, Value.int IntKind.u32 0, Value.int IntKind.u32 0, Value.int IntKind.u32 0, Value.int IntKind.u32 0, Value.int IntKind.u32 0, Value.int IntKind.u32 0, Value.int IntKind.u32 0, Value.int IntKind.u32 0, Value.int IntKind.u32 0, Value.int IntKind.u32 0, Value.int IntKind.u32 0, Value.int IntKind.u32 0, Value.int IntKind.u32 0, Value.int IntKind.u32 0] : Array Value) = sm_cs 0 := rfl
theorem sm_below_setRow {B : Nat} {w W : World} {g : Nat} (h : Below B w W) (hg : B ≤ g) (sm_cs : Array Value) : Below B w (W.setRow g sm_cs) :=
  ⟨h.os, h.tape, h.output, by simpa using h.size, fun i hi => (setRow_other W g i sm_cs (by omega)).trans (h.block i hi)⟩
set_option maxHeartbeats 8000000 in
set_option maxRecDepth 100000 in
theorem sm_halves (w : World) : Calls Try.prog 41 #[] w fun e w' => e = .returned (.agg (sm_cs 16)) ∧ Below w.heap.size w w' := by
  go_enter Try.func41, Try.ntmps41
  go_wp2_with fail
  rw [sm_zero_cs]
  have H0 := heap_alloc2_old w (.cells (sm_cs 0) 73) (.cells (sm_cs 0) 73)
  have H1 := heap_alloc2_new w (.cells (sm_cs 0) 73) (.cells (sm_cs 0) 73)
  have HB := below_alloc (below_alloc (Below.refl w.heap.size w) (.cells (sm_cs 0) 73)) (.cells (sm_cs 0) 73)
  go_loopw [2, 3, 4, 9] (fun v2 v3 v4 v9 wr => ∃ i : Nat, i ≤ 16 ∧ v4 = .int .i64 i ∧ Aside0 (Below w.heap.size w wr) ∧ Aside0 (wr.heap[w.heap.size]? = some (.cells (sm_cs 0) 73 (0, 0))) ∧ Aside0 (wr.heap[w.heap.size + 1]? = some (.cells (sm_cs i) 73 (0, 0)))) (fun _ _ v4 _ _ => 16 - (intOf v4).toNat)
  case atStart => exact ⟨0, by omega, rfl, ⟨HB⟩, ⟨H0⟩, ⟨H1⟩⟩
  case round =>
    clear HB H0 H1
    obtain ⟨i, hi, rfl, HB, H0, H1⟩ := hrel
    by_cases h : i < 16
    · go_wp2_with fail
      go_loop [3, 9] (fun v3 v9 => ∃ j : Nat, j ≤ 4 ∧ v9 = .int .i64 j ∧ v3 = .int .u32 (sm_it j (i : Int))) (fun _ v9 => 4 - (intOf v9).toNat)
      case atStart => exact ⟨0, by omega, rfl, rfl⟩
      case round =>
        obtain ⟨j, hj, rfl, rfl⟩ := hrel
        by_cases h4 : j < 4
        · go_wp2
          go_round
          case rel => exact ⟨j + 1, by omega, by go_num, rfl⟩
          case measure => simp [intOf]; omega
        · obtain rfl : j = 4 := by omega
          clear hj h4
          rw [sm_tab_it i h]
          obtain ⟨v, hv⟩ := sm_cs_at h
          have hc := (cell_of_row wr (w.heap.size + 1) i _ _ _ H1.out).trans hv
          have hf := frozen_of_row wr (w.heap.size + 1) i _ _ H1.out
          clear hv
          go_wp2
          go_roundw
          case rel => exact ⟨i + 1, by omega, by go_num, ⟨below_set HB.out (by simp)⟩, ⟨(heap_setCell_other _ _ _ _ (by simp)).trans H0.out⟩, ⟨(heap_setCell_same wr _ i _ _ _ H1.out).trans (by rw [sm_cs_next h])⟩⟩
          case measure => simp [intOf]; omega
    · obtain rfl : i = 16 := by omega
      clear h hi
      have hst := run_storeCells_from (P := Try.prog) w.heap.size 73 (sm_cs 16).toList 0 (sm_cs 0) wr H0.out rfl (by decide)
      go_wp2_with ((with_reducible refine gate_dst (N := 23) rfl ?_); refine wpList_load_row rfl 73 (.tmp 1) rfl (w.heap.size + 1) rfl 73 (sm_cs 16) (0, 0) _ H1.out Try.underlying73 rfl (by kernel_rfl) ?_)
      refine bodyPost_ret (v := .agg (sm_cs 16)) (results_cell_row rfl _ _ w.heap.size 73 (sm_cs 16) (0, 0) _ rfl (setRow_heap wr w.heap.size _ _ 73 _ H0.out) Try.underlying73 rfl (by kernel_rfl)) rfl ⟨rfl, ?_⟩
      exact sm_below_setRow HB.out (Nat.le_refl _) _

def sm_nib (c : Int) : Int := bits .xor .u32 (c / 16) (sm_tv (bits .and .u32 c 15).toNat)
def sm_byt (c x : Int) : Int := sm_nib (sm_nib (bits .xor .u32 c (x % 4294967296)))
def sm_rowc (c : Int) (l : List Int) : Int := l.foldl sm_byt c
def sm_sumf (l : List (List Int)) : Int := bits .xor .u32 4294967295 (l.foldl sm_rowc 4294967295)
theorem sm_and15 (c : Int) : 0 ≤ bits .and .u32 c 15 ∧ bits .and .u32 c 15 < 16 := by
  have h : ((BitVec.ofInt 32 c &&& BitVec.ofInt 32 15).toNat) < 16 := by
    rw [BitVec.toNat_and]
    exact Nat.lt_of_le_of_lt Nat.and_le_right (by decide)
  have e : bits .and .u32 c 15 = (((BitVec.ofInt 32 c &&& BitVec.ofInt 32 15).toNat : Nat) : Int) := by
    show IntKind.u32.wrap (((BitVec.ofInt 32 c &&& BitVec.ofInt 32 15).toNat : Nat) : Int) = _
    rw [IntKind.wrap_u32]; omega
  rw [e]; omega
theorem sm_cs16 {n : Nat} (h : n < 16) : (sm_cs 16)[n]? = some (.int .u32 (sm_tv n)) := by
  rcases n with _ | _ | _ | _ | _ | _ | _ | _ | _ | _ | _ | _ | _ | _ | _ | _ | n
  all_goals first | rfl | omega
theorem sm_row_next (c : Int) (b : List Int) (i : Nat) (h : i < b.length) : sm_rowc c (b.take (i + 1)) = sm_byt (sm_rowc c (b.take i)) (rd b (i : Int)) := by
  unfold sm_rowc
  rw [List.take_succ_eq_append_getElem h, List.foldl_append]
  simp [rd, List.getD_eq_getElem?_getD, List.getElem?_eq_getElem h]
theorem sm_fold_next (l : List (List Int)) (k : Nat) (h : k < l.length) : (l.take (k + 1)).foldl sm_rowc 4294967295 = sm_rowc ((l.take k).foldl sm_rowc 4294967295) (l.getD k []) := by
  rw [List.take_succ_eq_append_getElem h, List.foldl_append]
  simp [List.getD_eq_getElem?_getD, List.getElem?_eq_getElem h]
set_option maxHeartbeats 8000000 in
set_option maxRecDepth 100000 in
theorem sm_sum (A0 : Option Addr) (c0 : Nat) (l0 : List (List Int)) (w : World) (hr0 : Kd.C (Kd.slice 5 (Kd.int .u8)) w A0 l0.length l0) (hc0 : l0.length ≤ c0) :
    Calls Try.prog 16 #[.slice A0 l0.length c0] w fun e w' => e = .returned (.int .u32 (sm_sumf l0)) ∧ Below w.heap.size w w' := by
  have hm : l0.length ≤ 9223372036854775807 := hr0.2.1
  have HR0 := Aside0.mk hr0
  clear hr0
  go_enter Try.func16, Try.ntmps16
  have hst : ∀ W : World, (storeCells ⟨W.heap.size, 0, none⟩ (sm_cs 16).toList 0).run Try.prog (W.alloc (.cells #[Value.int IntKind.u32 0, Value.int IntKind.u32 0, Value.int IntKind.u32 0, Value.int IntKind.u32 0, Value.int IntKind.u32 0, Value.int IntKind.u32 0, Value.int IntKind.u32 0, Value.int IntKind.u32 0, Value.int IntKind.u32 0, Value.int IntKind.u32 0, Value.int IntKind.u32 0, Value.int IntKind.u32 0, Value.int IntKind.u32 0, Value.int IntKind.u32 0, Value.int IntKind.u32 0, Value.int IntKind.u32 0] 73)) = .ok () (W.alloc (.cells (sm_cs 16) 73)) := by
    intro W
    exact run_storeCells_new W 73 _ (sm_cs 16) (by kernel_rfl) rfl (by kernel_rfl)
  have hsz : (sm_cs 16).size = 16 := rfl
  go_wp2_with (go_at_call 41; refine (sm_halves _).mono ?_; rintro e w1 ⟨rfl, hb⟩)
  have H1 := heap_alloc_new w1 (.cells (sm_cs 16) 73)
  obtain ⟨B, hB⟩ : ∃ B, B = w1.heap.size := ⟨_, rfl⟩
  have hgB : w.heap.size ≤ B := by rw [hB]; exact hb.size
  have HB := below_alloc hb (.cells (sm_cs 16) 73)
  rw [← hB] at H1 ⊢
  generalize w1.alloc (.cells (sm_cs 16) 73) = W1 at HB H1 ⊢
  clear hB hb hst hsz
  have hgB' := Aside0.mk hgB
  clear hgB
  go_loopw [4, 6, 7, 11] (fun v4 v6 v7 v11 wr => ∃ k : Nat, k ≤ l0.length ∧ v11 = .int .i64 k ∧ v4 = .int .u32 ((l0.take k).foldl sm_rowc 4294967295) ∧ Aside0 (Below w.heap.size w wr) ∧ Aside0 (wr.heap[B]? = some (.cells (sm_cs 16) 73 (0, 0)))) (fun _ _ _ v11 _ => l0.length - (intOf v11).toNat)
  case atStart => exact ⟨0, by omega, rfl, rfl, ⟨HB⟩, ⟨H1⟩⟩
  case round =>
    clear HB H1
    obtain ⟨k, hk, rfl, rfl, HB, H1⟩ := hrel
    by_cases h : k < l0.length
    · obtain ⟨ad, ce, hA, hce, hK, hcc⟩ := Kd.C_get HR0.out ([] : List Int) (k : Int) (by omega) (by omega)
      obtain ⟨A1, c1, rfl, hc1, hi1⟩ := hK
      subst hA
      rw [Int.toNat_natCast] at hc1 hi1 hcc
      have hcell := hcc 0 _ rfl
      rw [Nat.add_zero] at hcell
      replace hcell : w.cell? (ad.add k) = some (.slice A1 (l0.getD k []).length c1) := by simpa [Kd.slice] using hcell
      replace hcell := (HB.out.cell (World.block_lt_of_cell? w _ hcell)).trans hcell
      obtain ⟨b, hb⟩ : ∃ b, b = l0.getD k [] := ⟨_, rfl⟩
      rw [← hb] at hcell hc1 hi1
      have Hi := Aside0.mk hi1
      have Hb := Aside0.mk hb
      clear hi1 hb hcc hce
      obtain ⟨C0, hC0⟩ : ∃ C0, C0 = (l0.take k).foldl sm_rowc 4294967295 := ⟨_, rfl⟩
      rw [← hC0]
      have HC0 := Aside0.mk hC0
      clear hC0
      have hbm : b.length ≤ 9223372036854775807 := Hi.out.2.1
      go_wp2
      refine wp_scope_jumps 0 (fun a' w' => w' = wr ∧ ∃ (i : Nat) (u15 u16 u17 u18 u19 u20 u21 u22 u23 u24 u25 u26 u27 u28 u29 u30 u31 u32 u33 u34 u35 u36 u37 u38 u39 u40 u41 : Value), i ≤ b.length ∧ a' = { tmps := #[.slice (some ad) l0.length c0, undef, .int .u32 0, .pointer (some ⟨B, 0, none⟩), .int .u32 (sm_rowc C0 (b.take i)), undef, .slice A1 b.length c1, .int .i64 (i : Int), .agg (sm_cs 16), .slice (some ad) l0.length c0, .int .i64 (l0.length : Int), .int .i64 (k : Int), .bool true, .pointer (some (ad.add k)), .slice A1 b.length c1, u15, u16, u17, u18, u19, u20, u21, u22, u23, u24, u25, u26, u27, u28, u29, u30, u31, u32, u33, u34, u35, u36, u37, u38, u39, u40, u41, u42, undef, undef], defers := [] }) (fun a' _ => b.length - (intOf (a'.tmps.getD 7 undef)).toNat) rfl ?_ ?_
      · go_wp2
        go_step3
        by_cases hi0 : 0 < b.length
        · obtain ⟨ad2, hA2, hx⟩ := Kd.at_int Hi.out (0 : Int) (by omega) (by omega)
          subst hA2
          replace hx := (HB.out.cell (World.block_lt_of_cell? w _ hx)).trans hx
          rw [show (0 : Int).toNat = 0 from rfl, Addr.add_zero'] at hx
          have hcellT : ∀ d : Int, wr.cell? ⟨B, (bits .and .u32 d 15).toNat, none⟩ = some (.int .u32 (sm_tv (bits .and .u32 d 15).toNat)) := fun d => (cell_of_row wr B _ _ _ _ H1.out).trans (sm_cs16 (by have := sm_and15 d; omega))
          have hlo := fun d : Int => (sm_and15 d).1
          have hhi := fun d : Int => (sm_and15 d).2
          go_wp2
          go_step3
          exact ⟨rfl, rfl, 1, _, _, _, _, _, _, _, _, _, _, _, _, _, _, _, _, _, _, _, _, _, _, _, _, _, _, _, by omega, by rw [show sm_rowc C0 (b.take 1) = sm_byt C0 (rd b 0) from sm_row_next C0 b 0 hi0]; rfl⟩
        · have hz : sm_rowc C0 b = C0 := by rw [List.eq_nil_of_length_eq_zero (show b.length = 0 by omega)]; rfl
          have Hz := Aside0.mk hz
          clear hz
          go_wp2
          simp only [Exit.jump]
          go_wp2
          go_roundw
          case rel => exact ⟨k + 1, by omega, by go_num, by rw [sm_fold_next l0 k h, ← Hb.out, ← HC0.out, Hz.out], ⟨HB.out⟩, ⟨H1.out⟩⟩
          case measure => simp [intOf]; omega
      · rintro a' w' ⟨rfl, i, u15, u16, u17, u18, u19, u20, u21, u22, u23, u24, u25, u26, u27, u28, u29, u30, u31, u32, u33, u34, u35, u36, u37, u38, u39, u40, u41, hi, rfl⟩
        by_cases hi0 : i < b.length
        · obtain ⟨ad2, hA2, hx⟩ := Kd.at_int Hi.out (i : Int) (by omega) (by omega)
          subst hA2
          replace hx := (HB.out.cell (World.block_lt_of_cell? w _ hx)).trans hx
          rw [Int.toNat_natCast] at hx
          have hcellT : ∀ d : Int, w'.cell? ⟨B, (bits .and .u32 d 15).toNat, none⟩ = some (.int .u32 (sm_tv (bits .and .u32 d 15).toNat)) := fun d => (cell_of_row w' B _ _ _ _ H1.out).trans (sm_cs16 (by have := sm_and15 d; omega))
          have hlo := fun d : Int => (sm_and15 d).1
          have hhi := fun d : Int => (sm_and15 d).2
          go_wp2
          go_step3
          exact ⟨rfl, ⟨rfl, i + 1, _, _, _, _, _, _, _, _, _, _, _, _, _, _, _, _, _, _, _, _, _, _, _, _, _, _, _, by omega, by rw [sm_row_next C0 b i hi0]; rfl⟩, by simp [intOf]; omega⟩
        · obtain rfl : i = b.length := by omega
          go_wp2
          simp only [Exit.jump]
          go_wp2
          go_roundw
          case rel => exact ⟨k + 1, by omega, by go_num, by rw [sm_fold_next l0 k h, ← Hb.out, ← HC0.out], ⟨HB.out⟩, ⟨H1.out⟩⟩
          case measure => simp [intOf]; omega
    · obtain rfl : k = l0.length := by omega
      go_wp2
      go_ret
      exact ⟨by first | rfl | (rw [List.take_length]; rfl), HB.out⟩
def wire_Sum.f (l0 : List (List Int)) : Option (Int) := some (sm_sumf l0)
theorem wire_Sum.calls (A0 : Option Addr) (c0 : Nat) (l0 : List (List Int)) (r : Int) (w : World) (hr0 : Kd.C (Kd.slice 5 (Kd.int .u8)) w A0 l0.length l0) (hc0 : l0.length ≤ c0) (h : wire_Sum.f l0 = some r) :
    Calls Try.prog 16 #[.slice A0 l0.length c0] w fun e w' => e = .returned (.int .u32 r) ∧ Below w.heap.size w w' := by
  obtain rfl : sm_sumf l0 = r := Option.some.inj h
  exact sm_sum A0 c0 l0 w hr0 hc0
theorem sm_lit {W : World} {b : Nat} {cs : Array Value} {t : TypeId} {fr : Nat × Nat} (hb : W.heap[b]? = some (.cells cs t fr)) (j : Nat) : W.cell? ⟨b, j, none⟩ = cs[j]? := cell_of_row W b j cs t fr hb
/-- A row of one row, of two rows, of bytes. -/
theorem sm_C_one {W : World} {b : Nat} {cs : Array Value} {t : TypeId} {fr : Nat × Nat} (hb : W.heap[b]? = some (.cells cs t fr)) (e : Nat) (k : IntKind) (x : List Int) {A : Option Addr} {c1 : Nat} (hcs : cs[0]? = some (.slice A x.length c1)) (h1 : x.length ≤ c1) (hx : Kd.C (Kd.int k) W A x.length x) :
    Kd.C (Kd.slice e (Kd.int k)) W (some ⟨b, 0, none⟩) 1 [x] := by
  refine ⟨rfl, by omega, fun _ => ⟨_, rfl, fun j p hj => ?_⟩⟩
  rcases j with _ | j
  · obtain rfl : x = p := by simpa using hj
    refine ⟨[.slice A x.length c1], rfl, ⟨A, c1, rfl, h1, hx⟩, fun i u hi => ?_⟩
    rcases i with _ | i
    · obtain rfl : Value.slice A x.length c1 = u := by simpa using hi
      rw [add_plain, sm_lit hb]
      simpa [Kd.slice] using hcs
    · simp at hi
  · simp at hj
theorem sm_C_two {W : World} {b : Nat} {cs : Array Value} {t : TypeId} {fr : Nat × Nat} (hb : W.heap[b]? = some (.cells cs t fr)) (e : Nat) (k : IntKind) (x y : List Int) {A B : Option Addr} {c1 c2 : Nat} (hcs : cs[0]? = some (.slice A x.length c1)) (hcs2 : cs[1]? = some (.slice B y.length c2))
    (h1 : x.length ≤ c1) (h2 : y.length ≤ c2) (hx : Kd.C (Kd.int k) W A x.length x) (hy : Kd.C (Kd.int k) W B y.length y) :
    Kd.C (Kd.slice e (Kd.int k)) W (some ⟨b, 0, none⟩) 2 [x, y] := by
  refine ⟨rfl, by omega, fun _ => ⟨_, rfl, fun j p hj => ?_⟩⟩
  rcases j with _ | _ | j
  · obtain rfl : x = p := by simpa using hj
    refine ⟨[.slice A x.length c1], rfl, ⟨A, c1, rfl, h1, hx⟩, fun i u hi => ?_⟩
    rcases i with _ | i
    · obtain rfl : Value.slice A x.length c1 = u := by simpa using hi
      rw [add_plain, sm_lit hb]
      simpa [Kd.slice] using hcs
    · simp at hi
  · obtain rfl : y = p := by simpa using hj
    refine ⟨[.slice B y.length c2], rfl, ⟨B, c2, rfl, h2, hy⟩, fun i u hi => ?_⟩
    rcases i with _ | i
    · obtain rfl : Value.slice B y.length c2 = u := by simpa using hi
      rw [add_plain, sm_lit hb]
      simpa [Kd.slice] using hcs2
    · simp at hi
  · simp at hj
theorem sm_heap3 (w : World) (o1 o2 o3 : Obj) : (((w.alloc o1).alloc o2).alloc o3).heap[w.heap.size]? = some o1 ∧ (((w.alloc o1).alloc o2).alloc o3).heap[w.heap.size + 1]? = some o2 ∧ (((w.alloc o1).alloc o2).alloc o3).heap[w.heap.size + 2]? = some o3 := by
  refine ⟨?_, ?_, ?_⟩
  · show (((w.heap.push o1).push o2).push o3)[w.heap.size]? = some o1
    rw [Array.getElem?_push, if_neg (by simp only [Array.size_push]; omega), Array.getElem?_push, if_neg (by simp only [Array.size_push]; omega), Array.getElem?_push, if_pos rfl]
  · show (((w.heap.push o1).push o2).push o3)[w.heap.size + 1]? = some o2
    rw [Array.getElem?_push, if_neg (by simp only [Array.size_push]; omega), Array.getElem?_push, if_pos (by simp only [Array.size_push])]
  · show (((w.heap.push o1).push o2).push o3)[w.heap.size + 2]? = some o3
    rw [Array.getElem?_push, if_pos (by simp only [Array.size_push])]

end Go.Proofs.Ytpehkbkbfpbolaa.PZ
