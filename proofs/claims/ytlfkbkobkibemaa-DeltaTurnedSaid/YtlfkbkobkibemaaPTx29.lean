-- Written by wip/xprint.py, a driver of this session's own over the kit's printer; Lean checks it.
import Derived.Test.YtlfkbkobkibemaaPTx0
import Derived.Test.YtlfkbkobkibemaaPTx2
import Derived.Test.YtlfkbkobkibemaaPTx12
import Derived.Test.YtlfkbkobkibemaaPTx17
import Derived.Test.YtlfkbkobkibemaaPTx26
import Derived.Laws.BitsLemmas
import Derived.WalkMore
import Derived.WalkLawsBesides
import Derived.OneCell
import Derived.Defers
import Derived.Recover
import Derived.StillTailTactics
namespace Go.Proofs.Ytlfkbkobkibemaa.PT
open Go.Proofs.YtlfkbkobkibemaaM Go.RowKit Go.Proofs.YtlfkbkobkibemaaW.PrintWords Go.Proofs.YtlfkbkobkibemaaW.PrintLast Go.Proofs.YtlfkbkobkibemaaW.PrintMore
attribute [local go_sem] max2_int min2_int max_two min_two max_three min_three max_four min_four   -- for this text's walks alone
set_option linter.unusedVariables false
set_option linter.unusedSimpArgs false

/-! ### delta_Parse: function 23 (by hand) -/
-- IMPORT Derived.Laws.BitsLemmas
-- IMPORT Derived.WalkMore
-- IMPORT Derived.WalkLawsBesides
-- IMPORT Derived.OneCell
-- IMPORT Derived.Defers
-- IMPORT Derived.Recover
-- IMPORT Derived.StillTailTactics
set_option maxHeartbeats 8000000 in
set_option maxRecDepth 100000 in
theorem delta_Parse.num (w : World) (g : Nat) (A : Option Addr) (c : Nat) (b : List Int) (at_ v : Int) (hg : w.heap[g]? = some (.cells #[.slice A b.length c, .int .i64 at_] 56 (0, 0))) (hC : Kd.C (Kd.int .u8) w A b.length b) (hc : b.length ≤ c) (h : wire_Get32.f b at_ = some (v, 0)) (hv0 : 0 ≤ v) (hv1 : v < 4294967296) (h0 : 0 ≤ at_) (h1 : at_ < 9000000000000000000) :
    Calls Try.prog 33 #[.pointer (some ⟨g, 0, none⟩)] w fun e w' => e = .returned (.int .i64 v) ∧ ∃ n, w' = (w.drewN n).setCell ⟨g, 1, none⟩ (.int .i64 (at_ + 4)) := by
  have hx0 : w.cell? ⟨g, 0, none⟩ = some (.slice A b.length c) := blk_cell hg 0
  have hx1 : w.cell? ⟨g, 1, none⟩ = some (.int .i64 at_) := blk_cell hg 1
  have hf1 : w.frozen? ⟨g, 1, none⟩ = false := blk_frozen hg 1
  have HC := Aside0.mk hC
  have HH := Aside0.mk h
  clear hC h hg
  go_enter Try.func33, Try.ntmps33
  go_wp2
  go_quiet (((go_at_call 38; (refine (wire_Get32.calls _ _ b at_ v 0 _ ?side1 ?side2 HH.out).mono ?_); (case side1 => first | exact HC.out | exact Kd.C_drewN HC.out _); (case side2 => exact hc); rintro e w' ⟨rfl, ⟨nd, rfl⟩⟩; first | exact ⟨rfl, _, World.drewN_drewN _ _ _⟩ | exact ⟨rfl, _, rfl⟩)))
  go_wp2
  go_ret
  exact ⟨rfl, _, rfl⟩
set_option maxHeartbeats 8000000 in
set_option maxRecDepth 100000 in
theorem delta_Parse.num_cut (w : World) (g : Nat) (A : Option Addr) (c : Nat) (b : List Int) (at_ v e_ : Int) (hg : w.heap[g]? = some (.cells #[.slice A b.length c, .int .i64 at_] 56 (0, 0))) (hC : Kd.C (Kd.int .u8) w A b.length b) (hc : b.length ≤ c) (h : wire_Get32.f b at_ = some (v, e_)) (he : (e_ != 0) = true) :
    Calls Try.prog 33 #[.pointer (some ⟨g, 0, none⟩)] w fun e w' => e = .panicked [{ v := .iface 68 (.agg #[]), recovered := false }] ∧ ∃ n, w' = w.drewN n := by
  have hx0 : w.cell? ⟨g, 0, none⟩ = some (.slice A b.length c) := blk_cell hg 0
  have hx1 : w.cell? ⟨g, 1, none⟩ = some (.int .i64 at_) := blk_cell hg 1
  have HC := Aside0.mk hC
  have HH := Aside0.mk h
  clear hC h hg
  go_enter Try.func33, Try.ntmps33
  go_wp2
  go_quiet (((go_at_call 38; (refine (wire_Get32.calls _ _ b at_ v e_ _ ?side1 ?side2 HH.out).mono ?_); (case side1 => first | exact HC.out | exact Kd.C_drewN HC.out _); (case side2 => exact hc); rintro e w' ⟨rfl, ⟨nd, rfl⟩⟩; first | exact ⟨rfl, _, World.drewN_drewN _ _ _⟩ | exact ⟨rfl, _, rfl⟩)))
  go_wp2
  exact ⟨rfl, rfl, _, rfl⟩
set_option maxHeartbeats 8000000 in
set_option maxRecDepth 100000 in
theorem delta_Parse.bytes_cut (w : World) (g : Nat) (A : Option Addr) (c : Nat) (b : List Int) (at_ n : Int) (hg : w.heap[g]? = some (.cells #[.slice A b.length c, .int .i64 at_] 56 (0, 0))) (h0 : 0 ≤ at_) (h1 : at_ ≤ (b.length : Int)) (hm : b.length ≤ 9223372036854775807) (hn : (b.length : Int) - at_ < n) :
    Calls Try.prog 40 #[.pointer (some ⟨g, 0, none⟩), .int .i64 n] w fun e w' => e = .panicked [{ v := .iface 68 (.agg #[]), recovered := false }] ∧ ∃ n, w' = w.drewN n := by
  have hx0 : w.cell? ⟨g, 0, none⟩ = some (.slice A b.length c) := blk_cell hg 0
  have hx1 : w.cell? ⟨g, 1, none⟩ = some (.int .i64 at_) := blk_cell hg 1
  clear hg
  go_enter Try.func40, Try.ntmps40
  go_wp2
  go_quiet (fail)
  go_wp2
  exact ⟨rfl, rfl, _, rfl⟩
set_option maxHeartbeats 8000000 in
set_option maxRecDepth 100000 in
theorem delta_Parse.bytes (w : World) (g : Nat) (A : Option Addr) (c : Nat) (b : List Int) (at_ n : Int) (hg : w.heap[g]? = some (.cells #[.slice A b.length c, .int .i64 at_] 56 (0, 0))) (hC : Kd.C (Kd.int .u8) w A b.length b) (hc : b.length ≤ c) (h0 : 0 ≤ at_) (h1 : at_ ≤ (b.length : Int)) (hn0 : 0 ≤ n) (hn : n ≤ (b.length : Int) - at_) (hmx : b.length < 140737488355328) (hA : ∀ ad, A = some ad → 0 < b.length → ad.block ≠ g) :
    Calls Try.prog 40 #[.pointer (some ⟨g, 0, none⟩), .int .i64 n] w fun e w' => ∃ v : Value, e = .returned v ∧ Kd.R (Kd.int .u8) 5 w' w.heap.size (fun _ => True) v ((b.take (at_ + n).toNat).drop at_.toNat) ∧ w'.heap[g]? = some (.cells #[.slice A b.length c, .int .i64 (at_ + n)] 56 (0, 0)) ∧ KeepBut w w' g none ∧ ∀ w0 : World, Below w0.heap.size w0 w → w0.heap.size ≤ g → Below w0.heap.size w0 w' := by
  have hx0 : w.cell? ⟨g, 0, none⟩ = some (.slice A b.length c) := blk_cell hg 0
  have hx1 : w.cell? ⟨g, 1, none⟩ = some (.int .i64 at_) := blk_cell hg 1
  have hf1 : w.frozen? ⟨g, 1, none⟩ = false := blk_frozen hg 1
  have hm : b.length ≤ 9223372036854775807 := by omega
  obtain ⟨ys, hys⟩ : ∃ y : List Int, y = (b.take (at_ + n).toNat).drop at_.toNat := ⟨_, rfl⟩
  rw [← hys]
  have HY := Aside0.mk hys
  clear hys
  have HC := Aside0.mk hC
  have HG := Aside0.mk hg
  clear hC hg
  go_enter Try.func40, Try.ntmps40
  go_wp2
  go_quiet (fail)
  go_wp2
  have hG1 : ((w.drewN nq).setCell ⟨g, 1, none⟩ (.int .i64 (at_ + n))).heap[g]? = some (.cells #[.slice A b.length c, .int .i64 (at_ + n)] 56 (0, 0)) := blk_set (w := w.drewN nq) HG.out 1 _
  have hK1 : KeepBut w ((w.drewN nq).setCell ⟨g, 1, none⟩ (.int .i64 (at_ + n))) g none := (KeepBut.of_below (pw_below_drewN (Below.refl _ _) nq) g none).set_ 1 _
  have hC1 : Kd.C (Kd.int .u8) ((w.drewN nq).setCell ⟨g, 1, none⟩ (.int .i64 (at_ + n))) A b.length b := by
    exact Kd.C_keep 0 HC.out hK1 hA
  have hB1 : ∀ w0 : World, Below w0.heap.size w0 w → w0.heap.size ≤ g → Below w0.heap.size w0 ((w.drewN nq).setCell ⟨g, 1, none⟩ (.int .i64 (at_ + n))) := fun w0 h hg => (pw_below_drewN h nq).setCell hg _
  clear hx0 hx1 hf1 HG HC
  generalize (w.drewN nq).setCell ⟨g, 1, none⟩ (.int .i64 (at_ + n)) = W1 at hG1 hK1 hC1 hB1 ⊢
  have hx0 : W1.cell? ⟨g, 0, none⟩ = some (.slice A b.length c) := blk_cell hG1 0
  have hx1 : W1.cell? ⟨g, 1, none⟩ = some (.int .i64 (at_ + n)) := blk_cell hG1 1
  obtain ⟨i0, hi, _, hsz, _⟩ := info_parts info5
  obtain ⟨A2, hcut, hA2, hC2⟩ := print_mid_of (P := Try.prog) (Value.int .u8) 0 22 5 .i64 .i64 Try.underlying22 hi hsz A c b at_ (at_ + n) (by omega) (by omega) (by omega) hc
  have hlen : ((b.take (at_ + n).toNat).drop at_.toNat).length ≤ b.length := by rw [List.length_drop, List.length_take]; omega
  rw [← HY.out] at hcut hA2 hC2 hlen
  have HC2 := Aside0.mk (hA2 W1 (Kd.reads_of_C (d := (0 : Int)) hC1))
  have HCC := Aside0.mk hC2
  have HLE := Aside0.mk hlen
  clear hlen
  have HG := Aside0.mk hG1
  have HK := Aside0.mk hK1
  have HB1 := Aside0.mk (fun w0 h hg => below_drew (hB1 w0 h hg))
  clear hG1 hK1 hC1 hB1 hA2 hC2 hi hsz
  have hwr : IntKind.i64.wrap at_ = at_ := by rw [i64_w]; unfold wrap64; omega
  refine wp_region_still_tail 15 (by kernel_rfl) (by kernel_rfl) ?_
  simp only [List.take_succ_cons, List.take_zero, List.drop_succ_cons, List.drop_zero]
  change wpStill _ _ W1.drew (fun a' => wpList _ _ _ _ a' W1.drew) _ _
  replace hx0 : W1.drew.cell? ⟨g, 0, none⟩ = some (.slice A b.length c) := hx0
  replace hx1 : W1.drew.cell? ⟨g, 1, none⟩ = some (.int .i64 (at_ + n)) := hx1
  have hHeap := Aside0.mk (show W1.drew.heap = W1.heap from rfl)
  have HD := Aside0.mk (Kd.C_drew (show Kd.C (Kd.int .u8) W1 A2 _ _ from Kd.C_of_reads (d := (0 : Int)) HC2.out))
  generalize W1.drew = W2 at hx0 hx1 hHeap HD HB1 ⊢
  repeat still_step
  refine wpStill_nil ?_
  go_wp2_with fail
  refine (bytes_Clone.calls A2 (c - at_.toNat) ys ys _ HD.out HCC.out (by unfold bytes_Clone.f; rw [if_pos (by have := HLE.out; omega)])).mono ?_
  rintro e w3 ⟨v, rfl, hr, hb⟩
  obtain ⟨Av, cv, ev⟩ := Kd.R_slice hr
  subst ev
  have HR := Aside0.mk hr
  have HB := Aside0.mk hb
  clear hr hb
  go_wp2
  go_ret
  have hsz : w.heap.size ≤ W2.heap.size := by rw [hHeap.out]; exact HK.out.1
  refine ⟨_, rfl, Kd.R_lower HR.out hsz, ?_, ?_, fun w0 h hg => below_step (HB1.out w0 h hg) HB.out⟩
  · have := HG.out
    rw [← hHeap.out] at this
    exact (HB.out.block g (blk_lt this)).trans this
  · have hk2 : KeepBut w W2 g none := ⟨hsz, fun i hi hg hr => by rw [hHeap.out]; exact HK.out.2 i hi hg hr⟩
    exact hk2.trans (KeepBut.of_below HB.out g none) (.inl rfl)
theorem delta_Parse.catch (p q : Addr) (u : TypeId) (pv : Value) (A : Option Addr) (n c : Nat) (m : Int) (w : World) (hp : w.cell? p = some (.slice A n c)) (fp : w.frozen? p = false) (hq : (w.setCell p (.slice none 0 0)).cell? q = some (.int .i64 m)) (fq : (w.setCell p (.slice none 0 0)).frozen? q = false) :
    CallsD Try.prog 39 #[.pointer (some p), .pointer (some q)] (.panicking [{ v := .iface u pv, recovered := false }]) w fun e u' w' =>
      e = .returned (.tuple #[]) ∧ u' = .panicking [{ v := .iface u pv, recovered := true }] ∧ w' = (w.setCell p (.slice none 0 0)).setCell q (.int .i64 22) := by
  refine callsD_of_wpS Try.func39 rfl fun c₀ cs hu => ?_
  apply wpS_seq
  apply wpS_region
  simp [wpOpsS, go_sem, recoverD, hu, Try.ntmps39, Exit.thenS]
  apply wpS_seq
  apply wpS_region
  simp [wpOpsS, go_sem, Exit.thenS]
  refine wpS_cond (t := true) (by simp [Act.eval, Array.replicate]) ?_
  simp only [if_true]
  apply wpS_region
  simp [wpOpsS, go_sem, hp, fp, hq, fq, bodyPostS, results, Try.results39]
theorem delta_Parse.idle (p q : Addr) (w : World) :
    CallsD Try.prog 39 #[.pointer (some p), .pointer (some q)] .returning w fun e u' w' => e = .returned (.tuple #[]) ∧ u' = .returning ∧ w' = w := by
  refine callsD_of_wpS Try.func39 rfl fun c₀ cs hu => ?_
  apply wpS_seq
  apply wpS_region
  simp [wpOpsS, go_sem, recoverD, hu, Try.ntmps39, Exit.thenS]
  apply wpS_seq
  apply wpS_region
  simp [wpOpsS, go_sem, Exit.thenS]
  refine wpS_cond (t := false) (by simp [Act.eval, Array.replicate]) ?_
  simp only [Bool.false_eq_true, if_false]
  refine wpS_of_wp (wp_skip ?_)
  cases c₀
  simp_all [bodyPostS, results, Try.results39]
def dp_get (b : List Int) (at_ : Int) : Int := Go.bits .or .u32 (Go.bits .or .u32 (Go.bits .or .u32 ((((rd b at_) % 4294967296) * 16777216) % 4294967296) ((((rd b (at_ + 1)) % 4294967296) * 65536) % 4294967296)) ((((rd b (at_ + 2)) % 4294967296) * 256) % 4294967296)) ((rd b (at_ + 3)) % 4294967296)
theorem dp_get_range (b : List Int) (at_ : Int) : 0 ≤ dp_get b at_ ∧ dp_get b at_ < 4294967296 := by
  unfold dp_get
  generalize Go.bits .or .u32 (Go.bits .or .u32 ((((rd b at_) % 4294967296) * 16777216) % 4294967296) ((((rd b (at_ + 1)) % 4294967296) * 65536) % 4294967296)) ((((rd b (at_ + 2)) % 4294967296) * 256) % 4294967296) = x
  generalize (rd b (at_ + 3)) % 4294967296 = y
  have e : bits .or .u32 x y = (((BitVec.ofInt 32 x ||| BitVec.ofInt 32 y).toNat : Nat) : Int) := by
    show IntKind.u32.wrap (((BitVec.ofInt 32 x ||| BitVec.ofInt 32 y).toNat : Nat) : Int) = _
    rw [IntKind.wrap_u32]
    have := (BitVec.ofInt 32 x ||| BitVec.ofInt 32 y).isLt
    omega
  have := (BitVec.ofInt 32 x ||| BitVec.ofInt 32 y).isLt
  rw [e]
  omega
theorem dp_w {x : Int} (h0 : 0 ≤ x) (h1 : x ≤ 9223372036854775807) : wrap64 x = x := by
  unfold wrap64
  omega
theorem dp_get_ok (b : List Int) (at_ : Int) (h0 : 0 ≤ at_) (h1 : at_ + 4 ≤ (b.length : Int)) (hm : b.length ≤ 9223372036854775807) : wire_Get32.f b at_ = some (dp_get b at_, 0) := by
  unfold wire_Get32.f dp_get
  rw [dp_w (x := (b.length : Int) - 4) (by omega) (by omega), dp_w (x := at_ + 1) (by omega) (by omega), dp_w (x := at_ + 2) (by omega) (by omega), dp_w (x := at_ + 3) (by omega) (by omega)]
  rw [if_neg (by omega), if_neg (by omega), if_neg (by omega), if_pos (by omega), if_pos (by omega), if_pos (by omega), if_pos (by omega), if_pos (by omega), if_pos (by omega), if_pos (by omega), if_pos (by omega)]
theorem dp_get_cut (b : List Int) (at_ : Int) (h0 : 0 ≤ at_) (h1 : (b.length : Int) < at_ + 4) (hm : b.length ≤ 9223372036854775807) : wire_Get32.f b at_ = some (0, 30) := by
  unfold wire_Get32.f
  rw [if_neg (by omega)]
  by_cases h : (b.length : Int) < 4
  · rw [if_pos h]
  · rw [if_neg h, dp_w (x := (b.length : Int) - 4) (by omega) (by omega), if_pos (by omega)]
structure dp_St (w W : World) (L E g : Nat) (A : Option Addr) (c : Nat) (b : List Int) (at_ : Int) (v : Value) (l : List S33) : Prop where
  hL : w.heap.size ≤ L
  hE : w.heap.size ≤ E
  hg : w.heap.size ≤ g
  below : Below w.heap.size w W
  gb : W.heap[g]? = some (.cells #[.slice A b.length c, .int .i64 at_] 56 (0, 0))
  eb : W.heap[E]? = some (.cells #[.int .i64 0] 34 (0, 0))
  row : W.heap[L]? = some (.cells #[v] 24 (0, 0)) ∧ Kd.S k33 33 W w.heap.size (fun _ => True) v l
theorem dp_St.num {w W : World} {L E g : Nat} {A : Option Addr} {c : Nat} {b : List Int} {at_ : Int} {v : Value} {l : List S33} (h : dp_St w W L E g A c b at_ v l) (n : Nat) (x : Int) : dp_St w ((W.drewN n).setCell ⟨g, 1, none⟩ (.int .i64 x)) L E g A c b x v l := by
  obtain ⟨hv, hr⟩ := h.row
  exact ⟨h.hL, h.hE, h.hg, (pw_below_drewN h.below n).setCell h.hg _, blk_set (w := W.drewN n) h.gb 1 _, blk_far (w := W.drewN n) h.eb (p := ⟨g, 1, none⟩) (blk_ne h.eb h.gb (by decide)) _, blk_far (w := W.drewN n) hv (p := ⟨g, 1, none⟩) (blk_ne hv h.gb (by decide)) _, Kd.S_set (w := W.drewN n) (Kd.S_drewN hr n) h.gb (by decide) 1 _⟩
theorem dp_St.bytes {w W W' : World} {L E g : Nat} {A : Option Addr} {c : Nat} {b : List Int} {at_ : Int} {v : Value} {l : List S33} (h : dp_St w W L E g A c b at_ v l) (x : Int) (hg : W'.heap[g]? = some (.cells #[.slice A b.length c, .int .i64 x] 56 (0, 0))) (hk : KeepBut W W' g none) (hB : ∀ w0 : World, Below w0.heap.size w0 W → w0.heap.size ≤ g → Below w0.heap.size w0 W') : dp_St w W' L E g A c b x v l := by
  obtain ⟨hv, hr⟩ := h.row
  exact ⟨h.hL, h.hE, h.hg, hB w h.below h.hg, hg, hk.blk h.eb (blk_ne h.eb h.gb (by decide)) (by simp), hk.blk hv (blk_ne hv h.gb (by decide)) (by simp), Kd.S_mono (Kd.S_keep (Kd.S_types hr h.gb (by decide)) hk (fun _ hk => hk.2)) (fun _ _ => trivial)⟩
theorem dp_St.draws {w W : World} {L E g : Nat} {A : Option Addr} {c : Nat} {b : List Int} {at_ : Int} {v : Value} {l : List S33} (h : dp_St w W L E g A c b at_ v l) (n : Nat) : dp_St w (W.drewN n) L E g A c b at_ v l := by
  obtain ⟨hv, hr⟩ := h.row
  exact ⟨h.hL, h.hE, h.hg, pw_below_drewN h.below n, h.gb, h.eb, hv, Kd.S_drewN hr n⟩
def dp_loop (b : List Int) : Nat → Int → List S33 → Option (List S33 × Int)
  | 0, at_, l => if at_ = (b.length : Int) then some (l, 0) else some ([], 22)
  | m + 1, at_, l => if (b.length : Int) < at_ + 12 then some ([], 22) else if (b.length : Int) - (at_ + 12) < dp_get b (at_ + 8) then some ([], 22) else
    if l.length < 3518437208880 then dp_loop b m (at_ + 12 + dp_get b (at_ + 8)) (l ++ [⟨dp_get b at_, dp_get b (at_ + 4), (b.take (at_ + 12 + dp_get b (at_ + 8)).toNat).drop (at_ + 12).toNat⟩]) else none
def dp_patches (b : List Int) : Option (List S33 × Int) := if b.length < 4 then some ([], 22) else dp_loop b (dp_get b 0).toNat 4 []
theorem dp_congr {P : Program} {fn : Func} {t1 t2 : Array Value} {R : Ending → World → Prop} (h : results fn t1 = results fn t2) : ∀ (ds : List Deferred) (u : FrameMode) (w : World), Leaves P fn t1 R ds u w → Leaves P fn t2 R ds u w := by
  intro ds
  induction ds with
  | nil =>
    intro u w hl
    cases u with
    | run => exact hl
    | returning =>
      obtain ⟨v, h1, h2⟩ := hl
      exact ⟨v, by rw [← h]; exact h1, h2⟩
    | panicking chain => exact hl
  | cons d ds ih =>
    intro u w hl
    obtain ⟨h1, fv, cap, f, args, h2, h3, h4⟩ := hl
    refine ⟨h1, fv, cap, f, args, h2, h3, h4.mono ?_⟩
    rintro e u' w' he
    cases e with
    | returned v => exact ih _ _ he
    | panicked chain => exact ih _ _ he
    | outgrown => exact he
theorem dp_start (w : World) (A : Option Addr) (c : Nat) (b : List Int) : dp_St w (((w.alloc (.cells #[.slice none 0 0] 24)).alloc (.cells #[.int .i64 0] 34)).alloc (.cells #[.slice A b.length c, .int .i64 0] 56)) w.heap.size (w.heap.size + 1) (w.heap.size + 1 + 1) A c b 0 (.slice none 0 0) [] := by
  refine ⟨Nat.le_refl _, by omega, by omega, below_alloc (below_alloc (below_alloc (Below.refl _ _) _) _) _, ?_, ?_, ?_, Kd.S_nil _ _ _ _ _⟩
  · have := heap_alloc_new ((w.alloc (.cells #[.slice none 0 0] 24)).alloc (.cells #[.int .i64 0] 34)) (.cells #[.slice A b.length c, .int .i64 0] 56)
    simpa using this
  · exact blk_alloc (heap_alloc2_new w _ _) _
  · exact blk_alloc (blk_alloc (heap_alloc_new w _) _) _
theorem dp_St.stored {w W w6 : World} {L E g : Nat} {A : Option Addr} {c : Nat} {b : List Int} {at_ : Int} {v v1 : Value} {l l1 : List S33} (st : dp_St w W L E g A c b at_ v l) (hg6 : W.grownBy w6 v.ownBlock) (hB6 : Below w.heap.size w w6) (hr : Kd.S k33 33 w6 w.heap.size (fun _ => True) v1 l1) :
    dp_St w (w6.setCell ⟨L, 0, none⟩ v1) L E g A c b at_ v1 l1 ∧ w6.heap[L]? = some (.cells #[v] 24 (0, 0)) := by
  have hv6 := blk_grown st.row.1 hg6 (Kd.S_ne st.row.2 st.row.1 (by decide))
  exact ⟨⟨st.hL, st.hE, st.hg, hB6.setCell st.hL _, blk_far (blk_grown st.gb hg6 (Kd.S_ne st.row.2 st.gb (by decide))) (p := ⟨L, 0, none⟩) (Ne.symm (blk_ne st.row.1 st.gb (by decide))) _, blk_far (blk_grown st.eb hg6 (Kd.S_ne st.row.2 st.eb (by decide))) (p := ⟨L, 0, none⟩) (Ne.symm (blk_ne st.row.1 st.eb (by decide))) _, one_setCell hv6, Kd.S_set hr hv6 (by decide) 0 _⟩, hv6⟩
theorem dp_St.fin {w W : World} {L E g : Nat} {A : Option Addr} {c : Nat} {b : List Int} {at_ : Int} {v v1 : Value} {l l1 : List S33} (st : dp_St w W L E g A c b at_ v l) (hr : Kd.S k33 33 W w.heap.size (fun _ => True) v1 l1) (x : Int) :
    Below w.heap.size w ((W.setCell ⟨L, 0, none⟩ v1).setCell ⟨E, 0, none⟩ (.int .i64 x)) ∧ ((W.setCell ⟨L, 0, none⟩ v1).setCell ⟨E, 0, none⟩ (.int .i64 x)).heap[L]? = some (.cells #[v1] 24 (0, 0)) ∧ Kd.S k33 33 ((W.setCell ⟨L, 0, none⟩ v1).setCell ⟨E, 0, none⟩ (.int .i64 x)) w.heap.size (fun _ => True) v1 l1 ∧ ((W.setCell ⟨L, 0, none⟩ v1).setCell ⟨E, 0, none⟩ (.int .i64 x)).heap[E]? = some (.cells #[.int .i64 x] 34 (0, 0)) ∧ (W.setCell ⟨L, 0, none⟩ v1).cell? ⟨E, 0, none⟩ = some (.int .i64 0) ∧ (W.setCell ⟨L, 0, none⟩ v1).frozen? ⟨E, 0, none⟩ = false := by
  have hLE : L ≠ E := blk_ne st.row.1 st.eb (by decide)
  have e1 : (W.setCell ⟨L, 0, none⟩ v1).heap[E]? = some (.cells #[.int .i64 0] 34 (0, 0)) := blk_far st.eb (p := ⟨L, 0, none⟩) (Ne.symm hLE) _
  have l1 : (W.setCell ⟨L, 0, none⟩ v1).heap[L]? = some (.cells #[v1] 24 (0, 0)) := one_setCell st.row.1
  exact ⟨(st.below.setCell st.hL _).setCell st.hE _, blk_far l1 (p := ⟨E, 0, none⟩) hLE _, Kd.S_set (Kd.S_set hr st.row.1 (by decide) 0 _) e1 (by decide) 0 _, one_setCell e1, blk_cell e1 0, blk_frozen e1 0⟩
theorem dp_door_cut {w W : World} {L E g : Nat} {A : Option Addr} {c : Nat} {b : List Int} {at_ : Int} {v : Value} {l : List S33} (st : dp_St w W L E g A c b at_ v l) (tmps : Array Value) (h2 : tmps[2]? = some (.pointer (some ⟨L, 0, none⟩))) (h3 : tmps[3]? = some (.pointer (some ⟨E, 0, none⟩))) :
    Leaves Try.prog Try.f34 tmps (fun e w' => ∃ v0_ : Value, e = .returned (.tuple #[v0_, .int .i64 22]) ∧ Kd.S k33 33 w' w.heap.size (fun _ => True) v0_ [] ∧ Below w.heap.size w w') [{ target := .fn (.func 39) #[.pointer (some ⟨L, 0, none⟩), .pointer (some ⟨E, 0, none⟩)], args := #[] }] (.panicking [{ v := .iface 68 (.agg #[]), recovered := false }]) W := by
  obtain ⟨hv, hr⟩ := st.row
  obtain ⟨A3, c3, rfl⟩ := Kd.R_slice (Kd.S_R hr)
  have hLE : L ≠ E := blk_ne hv st.eb (by decide)
  have e1 : (W.setCell ⟨L, 0, none⟩ (.slice none 0 0)).heap[E]? = some (.cells #[.int .i64 0] 34 (0, 0)) := blk_far st.eb (p := ⟨L, 0, none⟩) (Ne.symm hLE) _
  have l1 : (W.setCell ⟨L, 0, none⟩ (.slice none 0 0)).heap[L]? = some (.cells #[.slice none 0 0] 24 (0, 0)) := one_setCell hv
  refine leaves_cons (f := 39) (args := #[.pointer (some ⟨L, 0, none⟩), .pointer (some ⟨E, 0, none⟩)]) (by simp) (by simp [go_sem]) ?_
  refine (delta_Parse.catch ⟨L, 0, none⟩ ⟨E, 0, none⟩ _ _ A3 l.length c3 0 W (blk_cell hv 0) (blk_frozen hv 0) (blk_cell e1 0) (blk_frozen e1 0)).mono ?_
  rintro e u' w'' ⟨rfl, rfl, rfl⟩
  have l2 : ((W.setCell ⟨L, 0, none⟩ (.slice none 0 0)).setCell ⟨E, 0, none⟩ (.int .i64 22)).cell? ⟨L, 0, none⟩ = some (.slice none 0 0) := blk_cell (blk_far l1 (p := ⟨E, 0, none⟩) hLE _) 0
  have e2 : ((W.setCell ⟨L, 0, none⟩ (.slice none 0 0)).setCell ⟨E, 0, none⟩ (.int .i64 22)).cell? ⟨E, 0, none⟩ = some (.int .i64 22) := blk_cell (one_setCell e1) 0
  have hB : Below w.heap.size w ((W.setCell ⟨L, 0, none⟩ (.slice none 0 0)).setCell ⟨E, 0, none⟩ (.int .i64 22)) := (st.below.setCell st.hL _).setCell st.hE _
  generalize (W.setCell ⟨L, 0, none⟩ (.slice none 0 0)).setCell ⟨E, 0, none⟩ (.int .i64 22) = W2 at l2 e2 hB ⊢
  refine ⟨.tuple #[.slice none 0 0, .int .i64 22], ?_, _, rfl, Kd.S_nil _ _ _ _ _, hB⟩
  simp [results, Try.results34, go_sem, h2, h3, l2, e2]
theorem dp_door_ret {w W : World} {L E : Nat} {v : Value} {r1 : List S33} {r2 : Int} (hB : Below w.heap.size w W) (hv : W.heap[L]? = some (.cells #[v] 24 (0, 0))) (hr : Kd.S k33 33 W w.heap.size (fun _ => True) v r1) (he : W.heap[E]? = some (.cells #[.int .i64 r2] 34 (0, 0))) (tmps : Array Value) (h2 : tmps[2]? = some (.pointer (some ⟨L, 0, none⟩))) (h3 : tmps[3]? = some (.pointer (some ⟨E, 0, none⟩))) :
    Leaves Try.prog Try.f34 tmps (fun e w' => ∃ v0_ : Value, e = .returned (.tuple #[v0_, .int .i64 r2]) ∧ Kd.S k33 33 w' w.heap.size (fun _ => True) v0_ r1 ∧ Below w.heap.size w w') [{ target := .fn (.func 39) #[.pointer (some ⟨L, 0, none⟩), .pointer (some ⟨E, 0, none⟩)], args := #[] }] .returning W := by
  obtain ⟨A3, c3, rfl⟩ := Kd.R_slice (Kd.S_R hr)
  have l2 : W.cell? ⟨L, 0, none⟩ = some (.slice A3 r1.length c3) := blk_cell hv 0
  have e2 : W.cell? ⟨E, 0, none⟩ = some (.int .i64 r2) := blk_cell he 0
  refine leaves_cons (f := 39) (args := #[.pointer (some ⟨L, 0, none⟩), .pointer (some ⟨E, 0, none⟩)]) (by simp) (by simp [go_sem]) ?_
  refine (delta_Parse.idle ⟨L, 0, none⟩ ⟨E, 0, none⟩ W).mono ?_
  rintro e u' w'' ⟨rfl, rfl, rfl⟩
  refine ⟨.tuple #[.slice A3 r1.length c3, .int .i64 r2], ?_, _, rfl, hr, hB⟩
  simp [results, Try.results34, go_sem, h2, h3, l2, e2]
section
variable {P : Program} {ops : Array Oper} {Q : Exit → Act → World → Prop}
/-- A call that may panic, as an operation of a region. -/
theorem dp_callx {oi : Oper} {N : Option Tmp} {a : Act} {w : World} {K : Act → World → Prop} (f : FuncId) (args : Array Value) (hw : Region.wanted oi (yielded ops a.tmps) = true) (hN : oi.dst = N) (hrun : (execOp a.eval oi).run P w = .ok (.enter f args) w)
    (h : Calls P f args w fun e w' => (∃ v, e = .returned v ∧ K (a.put N v) w') ∨ (∃ c, e = .panicked c ∧ Q (.panic c) a w')) : if Region.wanted oi (yielded ops a.tmps) = true then Oper.wp P oi a w K Q else K (a.put N undef) w := by
  rw [if_pos hw]
  subst hN
  unfold Oper.wp
  rw [hrun, Oper.upon_enter]
  refine h.mono fun e w'' hh => ?_
  rcases hh with ⟨v, rfl, hk⟩ | ⟨c, rfl, hk⟩
  · exact hk
  · exact hk
end
theorem dp_res {t : Tmp} (h2 : t ≠ 2) (h3 : t ≠ 3) (a : Act) (v : Value) : results Try.f34 (a.put (some t) v).tmps = results Try.f34 a.tmps := by
  simp [results, Try.results34, Act.put, Array.getD_eq_getD_getElem?, Array.getElem?_setIfInBounds_ne h2, Array.getElem?_setIfInBounds_ne h3]
theorem dp_hQ {R : Ending → World → Prop} {t : Tmp} (h2 : t ≠ 2) (h3 : t ≠ 3) (v : Value) (c : List PanicEntry) (a : Act) (w : World) (h : bodyPostD Try.prog Try.f34 R (.panic c) (a.put (some t) v) w) : bodyPostD Try.prog Try.f34 R (.panic c) a w :=
  dp_congr (dp_res h2 h3 a v) _ _ _ h
set_option maxHeartbeats 8000000 in
set_option maxRecDepth 100000 in
theorem delta_Parse.patches (w : World) (A : Option Addr) (c : Nat) (b : List Int) (r1 : List S33) (r2 : Int) (hC : Kd.C (Kd.int .u8) w A b.length b) (hc : b.length ≤ c) (hmx : b.length < 140737488355328) (h : dp_patches b = some (r1, r2)) :
    Calls Try.prog 34 #[.slice A b.length c] w fun e w' => ∃ v0_ : Value, e = .returned (.tuple #[v0_, .int .i64 r2]) ∧ Kd.S k33 33 w' w.heap.size (fun _ => True) v0_ r1 ∧ Below w.heap.size w w' := by
  have hm : b.length ≤ 9223372036854775807 := by omega
  have HC := Aside0.mk hC
  have HS := Aside0.mk (dp_start w A c b)
  have hmf : ∀ (fn : Fn) (first cap : Array Value) (w : World), (Instr.makeFunc fn first cap).run Try.prog w = .ok (.func fn first cap) w := fun _ _ _ _ => rfl
  have HA := Aside0.mk (show ∀ ad, A = some ad → 0 < b.length → ad.block ≠ w.heap.size + 1 + 1 from by
    rintro ad rfl hp e
    obtain ⟨ad2, e2, hx⟩ := Kd.at_int hC (0 : Int) (by omega) (by omega)
    cases e2
    have := World.block_lt_of_cell? w _ hx
    simp [Addr.add_zero'] at this
    omega)
  clear hC
  unfold dp_patches at h
  by_cases h4 : b.length < 4
  · rw [if_pos h4] at h
    simp at h
    obtain ⟨h1, h2⟩ := h
    subst h1 h2
    go_enter_defers Try.func34, Try.ntmps34
    go_wp2_with fail
    obtain ⟨W, hW⟩ : ∃ W : World, W = (((w.alloc (.cells #[.slice none 0 0] 24)).alloc (.cells #[.int .i64 0] 34)).alloc (.cells #[.slice A b.length c, .int .i64 0] 56)) := ⟨_, rfl⟩
    rw [← hW] at HS ⊢
    clear hW hmf
    refine (delta_Parse.num_cut W _ A c b 0 0 30 HS.out.gb (Kd.C_below HC.out HS.out.below) hc (dp_get_cut b 0 (by omega) (by omega) hm) rfl).mono ?_
    rintro e w1 ⟨rfl, n1, rfl⟩
    go_wp2
    exact dp_door_cut (HS.out.draws n1) _ rfl rfl
  · rw [if_neg h4] at h
    have hv := dp_get_range b 0
    have HH := Aside0.mk h
    clear h
    go_enter_defers Try.func34, Try.ntmps34
    go_wp2_with fail
    obtain ⟨W, hW⟩ : ∃ W : World, W = (((w.alloc (.cells #[.slice none 0 0] 24)).alloc (.cells #[.int .i64 0] 34)).alloc (.cells #[.slice A b.length c, .int .i64 0] 56)) := ⟨_, rfl⟩
    rw [← hW] at HS ⊢
    clear hW hmf
    obtain ⟨L, hL⟩ : ∃ L, L = w.heap.size := ⟨_, rfl⟩
    rw [← hL] at HS HA ⊢
    obtain ⟨E, hE⟩ : ∃ E, E = L + 1 := ⟨_, rfl⟩
    rw [← hE] at HS HA ⊢
    obtain ⟨g, hg⟩ : ∃ g, g = E + 1 := ⟨_, rfl⟩
    rw [← hg] at HS HA ⊢
    clear hL hE hg
    refine (delta_Parse.num W _ A c b 0 (dp_get b 0) HS.out.gb (Kd.C_below HC.out HS.out.below) hc (dp_get_ok b 0 (by omega) (by omega) hm) hv.1 hv.2 (by omega) (by omega)).mono ?_
    rintro e w1 ⟨rfl, n1, hw1⟩
    have hs1 := HS.out.num n1 4
    rw [show (4 : Int) = 0 + 4 from rfl, ← hw1] at hs1
    clear HS hw1
    have HS := Aside0.mk hs1
    clear hs1
    go_wp2_with fail
    go_loopw [7] (fun v7 wr => ∃ (m : Nat) (at_ : Int) (v : Value) (l : List S33), v7 = .int .i64 m ∧ m ≤ 4294967295 ∧ 4 ≤ at_ ∧ at_ ≤ (b.length : Int) ∧ Aside0 (dp_loop b m at_ l = some (r1, r2)) ∧ Aside0 (dp_St w wr L E g A c b at_ v l)) (fun v7 _ => (intOf v7).toNat)
    case atStart => exact ⟨(dp_get b 0).toNat, 4, _, [], by rw [Int.toNat_of_nonneg hv.1], by omega, by omega, by omega, HH, HS⟩
    case round =>
      clear HH HS hv
      obtain ⟨m, at_, v, l, rfl, hm7, ha4, hab, HD, HS⟩ := hrel
      have hgb := HS.out.gb
      have hx1 : wr.cell? ⟨g, 1, none⟩ = some (.int .i64 at_) := blk_cell hgb 1
      cases m with
      | zero =>
        replace HD := HD.out
        unfold dp_loop at HD
        obtain ⟨hv, hr⟩ := HS.out.row
        obtain ⟨A3, c3, e3⟩ := Kd.R_slice (Kd.S_R hr)
        subst e3
        have hLc : wr.cell? ⟨L, 0, none⟩ = some (.slice A3 l.length c3) := blk_cell hv 0
        have hLf : wr.frozen? ⟨L, 0, none⟩ = false := blk_frozen hv 0
        by_cases he : at_ = (b.length : Int)
        · rw [if_pos he] at HD
          simp at HD
          obtain ⟨h1, h2⟩ := HD
          subst h1 h2
          obtain ⟨f1, f2, f3, f4, f5, f6⟩ := HS.out.fin hr 0
          have F1 := Aside0.mk f1
          have F2 := Aside0.mk f2
          have F3 := Aside0.mk f3
          have F4 := Aside0.mk f4
          have hne : (at_ != (b.length : Int)) = false := by simp [he]
          clear f1 f2 f3 f4 hv hr hgb he HS
          go_wp2
          exact dp_door_ret F1.out F2.out F3.out F4.out _ rfl rfl
        · rw [if_neg he] at HD
          simp at HD
          obtain ⟨h1, h2⟩ := HD
          subst h1 h2
          obtain ⟨f1, f2, f3, f4, f5, f6⟩ := HS.out.fin (Kd.S_nil _ _ _ _ _) 22
          have F1 := Aside0.mk f1
          have F2 := Aside0.mk f2
          have F3 := Aside0.mk f3
          have F4 := Aside0.mk f4
          have hne : (at_ != (b.length : Int)) = true := by simp [he]
          clear f1 f2 f3 f4 hv hr hgb he HS
          go_wp2
          exact dp_door_ret F1.out F2.out F3.out F4.out _ rfl rfl
      | succ m =>
        have hpos : decide ((0 : Int) < ((m + 1 : Nat) : Int)) = true := decide_eq_true (by omega)
        replace HD := HD.out
        unfold dp_loop at HD
        by_cases h4' : (b.length : Int) < at_ + 4
        · rw [if_pos (by omega)] at HD
          simp at HD
          obtain ⟨h1, h2⟩ := HD
          subst h1 h2
          go_wp2_with fail
          refine (delta_Parse.num_cut wr g A c b at_ 0 30 HS.out.gb (Kd.C_below HC.out HS.out.below) hc (dp_get_cut b at_ (by omega) h4' hm) rfl).mono ?_
          rintro e w1 ⟨rfl, n1, rfl⟩
          go_wp2
          exact dp_door_cut (HS.out.draws n1) _ rfl rfl
        · have hq1 := dp_get_range b at_
          have HD := Aside0.mk HD
          go_wp2_with fail
          refine (delta_Parse.num wr g A c b at_ (dp_get b at_) HS.out.gb (Kd.C_below HC.out HS.out.below) hc (dp_get_ok b at_ (by omega) (by omega) hm) hq1.1 hq1.2 (by omega) (by omega)).mono ?_
          rintro e w1 ⟨rfl, n1, hw1⟩
          have hs1 := HS.out.num n1 (at_ + 4)
          rw [← hw1] at hs1
          clear HS hw1 hgb hx1
          have HS := Aside0.mk hs1
          clear hs1
          by_cases h8 : (b.length : Int) < at_ + 8
          · replace HD := HD.out
            rw [if_pos (by omega)] at HD
            simp at HD
            obtain ⟨h1, h2⟩ := HD
            subst h1 h2
            go_wp2_with fail
            refine (delta_Parse.num_cut w1 g A c b (at_ + 4) 0 30 HS.out.gb (Kd.C_below HC.out HS.out.below) hc (dp_get_cut b (at_ + 4) (by omega) (by omega) hm) rfl).mono ?_
            rintro e w2 ⟨rfl, n2, rfl⟩
            go_wp2
            exact dp_door_cut (HS.out.draws n2) _ rfl rfl
          · have hq2 := dp_get_range b (at_ + 4)
            go_wp2_with fail
            refine (delta_Parse.num w1 g A c b (at_ + 4) (dp_get b (at_ + 4)) HS.out.gb (Kd.C_below HC.out HS.out.below) hc (dp_get_ok b (at_ + 4) (by omega) (by omega) hm) hq2.1 hq2.2 (by omega) (by omega)).mono ?_
            rintro e w2 ⟨rfl, n2, hw2⟩
            have hs2 := HS.out.num n2 (at_ + 4 + 4)
            rw [← hw2] at hs2
            clear HS hw2
            have HS := Aside0.mk hs2
            clear hs2
            go_wp2_with fail
            obtain ⟨hv, hr⟩ := HS.out.row
            obtain ⟨A3, c3, e3⟩ := Kd.R_slice (Kd.S_R hr)
            subst e3
            have hLc : w2.cell? ⟨L, 0, none⟩ = some (.slice A3 l.length c3) := blk_cell hv 0
            clear hv hr
            refine start_ (n := 11) (S := fun w' => w'.cell? ⟨L, 0, none⟩ = some (.slice A3 l.length c3)) (ds := [10]) #[false, false, false, false, false, false, false, false, false, false, false] (by kernel_rfl) rfl rfl hLc (fun hHeld => ?_)
            have hs2d := HS.out.draws 1
            clear HS
            have HS := Aside0.mk (show dp_St w w2.drew L E g A c b (at_ + 4 + 4) (.slice A3 l.length c3) l from hs2d)
            clear hs2d hLc
            generalize w2.drew = w3 at HS hHeld ⊢
            refine pure_ (i := 1) (N := some 29) (v := ?_) (a' := ?_) #[false, true, false, false, false, false, false, false, false, false, false] rfl rfl (by kernel_rfl) (fun c a w h => dp_hQ (by decide) (by decide) _ c a w h) (Or.inl ⟨by rfl, ?_⟩) ?_ ?_
            rotate_left
            · intro w'
              go_simp
              with_reducible rfl
            rotate_left
            · simp only [Act.put, List.setIfInBounds_toArray, List.set_cons_zero, List.set_cons_succ]
              rfl
            refine pure_ (i := 2) (N := some 30) (v := ?_) (a' := ?_) #[false, true, true, false, false, false, false, false, false, false, false] rfl rfl (by kernel_rfl) (fun c a w h => dp_hQ (by decide) (by decide) _ c a w h) (Or.inl ⟨by rfl, ?_⟩) ?_ ?_
            rotate_left
            · intro w'
              go_simp
              with_reducible rfl
            rotate_left
            · simp only [Act.put, List.setIfInBounds_toArray, List.set_cons_zero, List.set_cons_succ]
              rfl
            refine pure_ (i := 3) (N := some 31) (v := ?_) (a' := ?_) #[false, true, true, true, false, false, false, false, false, false, false] rfl rfl (by kernel_rfl) (fun c a w h => dp_hQ (by decide) (by decide) _ c a w h) (Or.inl ⟨by rfl, ?_⟩) ?_ ?_
            rotate_left
            · intro w'
              go_simp
              with_reducible rfl
            rotate_left
            · simp only [Act.put, List.setIfInBounds_toArray, List.set_cons_zero, List.set_cons_succ]
              rfl
            refine pure_ (i := 4) (N := some 32) (v := ?_) (a' := ?_) #[false, true, true, true, true, false, false, false, false, false, false] rfl rfl (by kernel_rfl) (fun c a w h => dp_hQ (by decide) (by decide) _ c a w h) (Or.inl ⟨by rfl, ?_⟩) ?_ ?_
            rotate_left
            · intro w'
              go_simp
              with_reducible rfl
            rotate_left
            · simp only [Act.put, List.setIfInBounds_toArray, List.set_cons_zero, List.set_cons_succ]
              rfl
            refine take_ (i := 0) (N := some 28) (v := ?_) (a' := ?_) #[true, true, true, true, true, false, false, false, false, false, false] rfl rfl (by kernel_rfl) (fun c a w h => dp_hQ (by decide) (by decide) _ c a w h) (Or.inl ⟨by rfl, ?_⟩) hHeld ?_ ?_
            rotate_left
            · intro w' s0
              go_simp
              with_reducible rfl
            rotate_left
            · simp only [Act.put, List.setIfInBounds_toArray, List.set_cons_zero, List.set_cons_succ]
              rfl
            refine one_ (i := 5) (N := some 33) #[true, true, true, true, true, true, false, false, false, false, false] rfl rfl (by kernel_rfl) (by decide) (fun K hK => ?_)
            by_cases h12 : (b.length : Int) < at_ + 12
            · replace HD := HD.out
              rw [if_pos h12] at HD
              simp at HD
              obtain ⟨h1, h2⟩ := HD
              subst h1 h2
              refine dp_callx 33 #[.pointer (some ⟨g, 0, none⟩)] (by rfl) rfl (by have he := enters_ Try.func33 (by kernel_rfl) rfl #[.pointer (some ⟨g, 0, none⟩)] w3; go_simp) ?_
              refine (delta_Parse.num_cut w3 g A c b (at_ + 4 + 4) 0 30 HS.out.gb (Kd.C_below HC.out HS.out.below) hc (dp_get_cut b (at_ + 4 + 4) (by omega) (by omega) hm) rfl).mono ?_
              rintro e w4 ⟨rfl, n3, rfl⟩
              exact .inr ⟨_, rfl, dp_door_cut (HS.out.draws n3) _ rfl rfl⟩
            · have hq3 := dp_get_range b (at_ + 8)
              rw [show at_ + 8 = at_ + 4 + 4 from by omega] at hq3
              refine dp_callx 33 #[.pointer (some ⟨g, 0, none⟩)] (by rfl) rfl (by have he := enters_ Try.func33 (by kernel_rfl) rfl #[.pointer (some ⟨g, 0, none⟩)] w3; go_simp) ?_
              refine (delta_Parse.num w3 g A c b (at_ + 4 + 4) (dp_get b (at_ + 4 + 4)) HS.out.gb (Kd.C_below HC.out HS.out.below) hc (dp_get_ok b (at_ + 4 + 4) (by omega) (by omega) hm) hq3.1 hq3.2 (by omega) (by omega)).mono ?_
              rintro e w4 ⟨rfl, n3, hw4⟩
              refine .inl ⟨_, rfl, ?_⟩
              have hs3 := HS.out.num n3 (at_ + 4 + 4 + 4)
              rw [← hw4] at hs3
              clear HS hw4 hHeld
              have HS := Aside0.mk hs3
              clear hs3
              refine hK.out _ _ (blk_cell HS.out.row.1 0) (fun hHeld => ?_)
              clear hK K
              refine norm_ (a' := ?_) ?_ ?_
              rotate_left
              · simp only [Act.put, List.setIfInBounds_toArray, List.set_cons_zero, List.set_cons_succ]
                rfl
              refine one_ (i := 6) (N := some 34) #[true, true, true, true, true, true, true, false, false, false, false] rfl rfl (by kernel_rfl) (by decide) (fun K hK => ?_)
              obtain ⟨n, hn⟩ : ∃ n, n = dp_get b (at_ + 4 + 4) := ⟨_, rfl⟩
              have HD := Aside0.mk (by have := HD.out; rwa [if_neg h12, show at_ + 8 = at_ + 4 + 4 from by omega, ← hn] at this)
              rw [← hn] at hq3 ⊢
              clear hn
              by_cases hcut : (b.length : Int) - (at_ + 12) < n
              · replace HD := HD.out
                rw [if_pos hcut] at HD
                simp at HD
                obtain ⟨h1, h2⟩ := HD
                subst h1 h2
                refine dp_callx 40 #[.pointer (some ⟨g, 0, none⟩), .int .i64 n] (by rfl) rfl (by have he := enters_ Try.func40 (by kernel_rfl) rfl #[.pointer (some ⟨g, 0, none⟩), .int .i64 n] w4; go_simp) ?_
                refine (delta_Parse.bytes_cut w4 g A c b (at_ + 4 + 4 + 4) n HS.out.gb (by omega) (by omega) hm (by omega)).mono ?_
                rintro e w5 ⟨rfl, n3, rfl⟩
                exact .inr ⟨_, rfl, dp_door_cut (HS.out.draws n3) _ rfl rfl⟩
              · by_cases hll : l.length < 3518437208880
                · have HD := Aside0.mk (by have := HD.out; rwa [if_neg hcut, if_pos hll] at this)
                  have hAg := HA.out
                  refine dp_callx 40 #[.pointer (some ⟨g, 0, none⟩), .int .i64 n] (by rfl) rfl (by have he := enters_ Try.func40 (by kernel_rfl) rfl #[.pointer (some ⟨g, 0, none⟩), .int .i64 n] w4; go_simp) ?_
                  refine (delta_Parse.bytes w4 g A c b (at_ + 4 + 4 + 4) n HS.out.gb (Kd.C_below HC.out HS.out.below) hc (by omega) (by omega) (by omega) (by omega) hmx hAg).mono ?_
                  rintro e w5 ⟨vD, rfl, hrD, hgD, hkD, hbD⟩
                  refine .inl ⟨_, rfl, ?_⟩
                  have hlt : ∀ k, (Value.slice A3 l.length c3).ownBlock = some k → k < w4.heap.size := by
                    exact Kd.S_lt HS.out.row.2
                  have hsl := Kd.S_keep (Kd.S_types (Kd.S_mono (ok' := fun k => k < w4.heap.size) (Kd.S_bound HS.out.row.2) (fun k hk => hk.2.2.1)) HS.out.gb (by decide)) hkD (fun k hk => hk.2)
                  have HSL := Aside0.mk (Kd.S_mono (ok' := fun k => True ∧ ¬ w4.heap.size ≤ k) hsl (fun k hk => ⟨trivial, by have := hk.1; omega⟩))
                  clear hsl
                  have hs4 := HS.out.bytes (at_ + 4 + 4 + 4 + n) hgD hkD hbD
                  have hw4 : w.heap.size ≤ w4.heap.size := HS.out.below.size
                  have hrD2 := Kd.R_mono (ok' := fun k => w4.heap.size ≤ k) (Kd.R_bound hrD) (fun k hk => hk.2.1)
                  replace hrD2 := Kd.R_lower hrD2 hw4
                  obtain ⟨AD, cD, eD⟩ := Kd.R_slice hrD2
                  subst eD
                  clear HS hHeld hAg hrD hgD hkD hbD
                  have HS := Aside0.mk hs4
                  have HRD := Aside0.mk hrD2
                  have HLT := Aside0.mk hlt
                  clear hs4 hrD2 hlt hw4
                  refine hK.out _ _ (blk_cell HS.out.row.1 0) (fun hHeld => ?_)
                  clear hK K
                  obtain ⟨D, hD⟩ : ∃ D, D = (b.take (at_ + 4 + 4 + 4 + n).toNat).drop (at_ + 4 + 4 + 4).toNat := ⟨_, rfl⟩
                  rw [← hD] at HRD ⊢
                  have HD := Aside0.mk (by have := HD.out; rwa [show at_ + 12 = at_ + 4 + 4 + 4 from by omega, ← hD] at this)
                  clear hD
                  refine norm_ (a' := ?_) ?_ ?_
                  rotate_left
                  · simp only [Act.put, List.setIfInBounds_toArray, List.set_cons_zero, List.set_cons_succ]
                    rfl
                  refine one_ (i := 7) (N := some 35) #[true, true, true, true, true, true, true, true, false, false, false] rfl rfl (by kernel_rfl) (by decide) (fun K hK => ?_)
                  refine value_ (w1 := w5) (v := .agg #[.int .i64 (dp_get b at_), .int .i64 (dp_get b (at_ + 4)), .slice AD D.length cD]) (by rfl) rfl ?_ ?_
                  · go_simp
                  refine hK.out _ _ hHeld (fun hHeld => ?_)
                  clear hK K
                  refine norm_ (a' := ?_) ?_ ?_
                  rotate_left
                  · simp only [Act.put, List.setIfInBounds_toArray, List.set_cons_zero, List.set_cons_succ]
                    rfl
                  refine one_ (i := 8) (N := some 36) #[true, true, true, true, true, true, true, true, true, false, false] rfl rfl (by kernel_rfl) (by decide) (fun K hK => ?_)
                  refine value_ (w1 := w5.alloc (.cells #[.int .i64 (dp_get b at_), .int .i64 (dp_get b (at_ + 4)), .slice AD D.length cD] 33)) (v := .slice (some ⟨w5.heap.size, 0, none⟩) 1 1) (by rfl) rfl ?_ ?_
                  · go_simp
                  refine hK.out _ _ (blk_cell (blk_alloc HS.out.row.1 _) 0) (fun hHeld => ?_)
                  clear hK K
                  refine norm_ (a' := ?_) ?_ ?_
                  rotate_left
                  · simp only [Act.put, List.setIfInBounds_toArray, List.set_cons_zero, List.set_cons_succ]
                    rfl
                  refine one_ (i := 9) (N := some 37) #[true, true, true, true, true, true, true, true, true, true, false] rfl rfl (by kernel_rfl) (by decide) (fun K hK => ?_)
                  have hpM : k33.M w5 w.heap.size (fun k => w4.heap.size ≤ k) ⟨dp_get b at_, dp_get b (at_ + 4), D⟩ [.int .i64 (dp_get b at_), .int .i64 (dp_get b (at_ + 4)), .slice AD D.length cD] := k33_mkM w5 w.heap.size _ ⟨dp_get b at_, dp_get b (at_ + 4), D⟩ HRD.out
                  refine Kd.S_append_step k33 (w0 := w) (W := w5) w.heap.size (by rfl) (.tmp 28) (.tmp 36) 24 33 (.agg #[.int .i64 0, .int .i64 0, .slice none 0 0]) 40 rfl Try.underlying24 info33 rfl (by decide) (by decide) (.slice A3 l.length c3) l ⟨dp_get b at_, dp_get b (at_ + 4), D⟩ [.int .i64 (dp_get b at_), .int .i64 (dp_get b (at_ + 4)), .slice AD D.length cD] (fun _ => True) (fun k => w4.heap.size ≤ k) rfl rfl hpM (fun k hk => ⟨trivial, fun he => by have := HLT.out k he.symm; omega⟩) (fun _ _ => trivial) HSL.out HS.out.below HS.out.below.size (by omega) ?_
                  intro v1 w6 hr6 hb6 hg6 _
                  obtain ⟨l1, hl1⟩ : ∃ l1, l1 = l ++ [(⟨dp_get b at_, dp_get b (at_ + 4), D⟩ : S33)] := ⟨_, rfl⟩
                  rw [← hl1] at hr6
                  have HD := Aside0.mk (by have := HD.out; rwa [← hl1] at this)
                  obtain ⟨A6, c6, e6⟩ := Kd.R_slice (Kd.S_R hr6)
                  subst e6
                  obtain ⟨hs6, hL6⟩ := HS.out.stored hg6 hb6 hr6
                  have hfr : w6.frozen? ⟨L, 0, none⟩ = false := blk_frozen hL6 0
                  have hcl : w6.cell? ⟨L, 0, none⟩ = some (.slice A3 l.length c3) := blk_cell hL6 0
                  clear hHeld HS HRD HLT HSL hpM hr6 hb6 hg6 hL6 hl1
                  have HS := Aside0.mk hs6
                  clear hs6
                  refine hK.out _ _ hcl (fun hHeld => ?_)
                  clear hK K
                  refine norm_ (a' := ?_) ?_ ?_
                  rotate_left
                  · simp only [Act.put, List.setIfInBounds_toArray, List.set_cons_zero, List.set_cons_succ]
                    rfl
                  refine last_ (i := 10) (N := none) #[true, true, true, true, true, true, true, true, true, true, true] rfl rfl (by kernel_rfl) (by decide) (fun K hK => ?_)
                  refine skip_ (w1 := w6.setCell ⟨L, 0, none⟩ (.slice A6 l1.length c6)) (by rfl) rfl ?_ ?_
                  · go_simp
                  refine hK.out _ _ ?_
                  clear hK K
                  refine done_ (by kernel_rfl) ?_
                  go_wp2
                  go_roundw
                  case rel => exact ⟨m, at_ + 4 + 4 + 4 + n, _, l1, rfl, by omega, by omega, by omega, HD, HS⟩
                  case measure => simp [intOf]
                · have := HD.out
                  rw [if_neg hcut, if_neg hll] at this
                  exact absurd this (by simp)
theorem dp_sum_w (l : List (List Int)) : wrap64 (sm_sumf l) = sm_sumf l := by
  have h : 0 ≤ sm_sumf l ∧ sm_sumf l < 4294967296 := by
    unfold sm_sumf
    generalize l.foldl sm_rowc 4294967295 = c
    have e : bits .xor .u32 4294967295 c = (((BitVec.ofInt 32 4294967295 ^^^ BitVec.ofInt 32 c).toNat : Nat) : Int) := by
      show IntKind.u32.wrap (((BitVec.ofInt 32 4294967295 ^^^ BitVec.ofInt 32 c).toNat : Nat) : Int) = _
      rw [IntKind.wrap_u32]
      have := (BitVec.ofInt 32 4294967295 ^^^ BitVec.ofInt 32 c).isLt
      omega
    have := (BitVec.ofInt 32 4294967295 ^^^ BitVec.ofInt 32 c).isLt
    rw [e]
    omega
  unfold wrap64
  omega
def delta_Parse.f (k : Nat) (l0 l1 : List Int) : Option (List S33 × Int) :=
  if (l1.length : Int) < 20 then some ([], 22) else if l1.length < 140737488355328 then (if (strOfNums (l1.take 4)).toList = ([84, 80, 68, 49] : List UInt8) then (if dp_get l1 ((l1.length : Int) - 4) = sm_sumf [l1.take (l1.length - 4)] then (if dp_get l1 4 = (l0.length : Int) then (if dp_get l1 8 = sm_sumf [l0] then ((dp_patches ((l1.take (l1.length - 4)).drop 12)).bind fun r => if r.2 = 0 then ((delta_fit.f k (l0.length : Int) r.1).bind fun t => if t = true then some (r.1, 0) else some ([], 33)) else some ([], r.2)) else some ([], 33)) else some ([], 33)) else some ([], 23)) else some ([], 21)) else none
theorem delta_Parse.mono : ∀ a0 a1 k, LeO (delta_Parse.f k a0 a1) (delta_Parse.f (k + 1) a0 a1) := by
  intro a0 a1 k
  unfold delta_Parse.f
  refine LeO.ite (LeO.refl _) (LeO.ite (LeO.ite (LeO.ite (LeO.ite (LeO.ite (LeO.bind (LeO.refl _) (fun r => LeO.ite (LeO.bind ?_ (fun _ => LeO.refl _)) (LeO.refl _))) (LeO.refl _)) (LeO.refl _)) (LeO.refl _)) (LeO.refl _)) (LeO.refl _))
  exact delta_fit.mono _ _ k
set_option maxHeartbeats 8000000 in
set_option maxRecDepth 100000 in
theorem delta_Parse.short (A0 : Option Addr) (c0 : Nat) (l0 : List Int) (A1 : Option Addr) (c1 : Nat) (l1 : List Int) (w : World) (h : (l1.length : Int) < 20) :
    Calls Try.prog 23 #[.slice A0 l0.length c0, .slice A1 l1.length c1] w fun e w' => e = .returned (.tuple #[.slice none 0 0, .int .i64 22]) ∧ Below w.heap.size w w' := by
  have hd : decide ((l1.length : Int) < 20) = true := decide_eq_true h
  go_enter Try.func23, Try.ntmps23
  go_wp2
  go_ret2
  exact ⟨rfl, Below.refl _ _⟩
set_option maxHeartbeats 8000000 in
set_option maxRecDepth 100000 in
theorem delta_Parse.nomagic (A0 : Option Addr) (c0 : Nat) (l0 : List Int) (A1 : Option Addr) (c1 : Nat) (l1 : List Int) (w : World) (hr1 : Kd.C (Kd.int .u8) w A1 l1.length l1) (hc1 : l1.length ≤ c1) (h : ¬ (l1.length : Int) < 20) (hg : ¬ (strOfNums (l1.take 4)).toList = ([84, 80, 68, 49] : List UInt8)) :
    Calls Try.prog 23 #[.slice A0 l0.length c0, .slice A1 l1.length c1] w fun e w' => e = .returned (.tuple #[.slice none 0 0, .int .i64 21]) ∧ Below w.heap.size w w' := by
  have hd : decide ((l1.length : Int) < 20) = false := decide_eq_false h
  obtain ⟨i0, hi, _, hsz, _⟩ := info_parts info5
  obtain ⟨hcut, hA, hC⟩ := print_take_of (P := Try.prog) (Value.int .u8) 0 22 5 .i64 Try.underlying22 hi hsz A1 c1 l1 4 (by omega) (by omega) hc1
  obtain ⟨y, hy⟩ : ∃ y : List Int, y = l1.take 4 := ⟨_, rfl⟩
  simp only [Int.reduceToNat] at hcut hA hC
  rw [← hy] at hcut hA hC hg
  have HY := Aside0.mk (Kd.C_of_reads (h1 := fun _ => rfl) (hA w (Kd.reads_of_C (d := (0 : Int)) hr1)))
  have hcv := Kd.C_string (P := Try.prog) (A := A1) (c := c1) Try.underlying22 Try.underlying5 Try.underlying9 HY.out
  have hb1 : ((strOfNums y).toList == ([84, 80, 68, 49] : List UInt8)) = false := by simpa using hg
  clear hA hC hi hsz hy hg HY hr1
  go_enter Try.func23, Try.ntmps23
  go_wp2
  go_ret2
  exact ⟨rfl, Below.refl _ _⟩
set_option maxHeartbeats 8000000 in
set_option maxRecDepth 100000 in
theorem delta_Parse.calls (k : Nat) (A0 : Option Addr) (c0 : Nat) (l0 : List Int) (A1 : Option Addr) (c1 : Nat) (l1 : List Int) (r1 : List S33) (r2 : Int) (w : World) (hr0 : Kd.C (Kd.int .u8) w A0 l0.length l0) (hc0 : l0.length ≤ c0) (hr1 : Kd.C (Kd.int .u8) w A1 l1.length l1) (hc1 : l1.length ≤ c1) (h : delta_Parse.f k l0 l1 = some (r1, r2)) :
    Calls Try.prog 23 #[.slice A0 l0.length c0, .slice A1 l1.length c1] w fun e w' => ∃ v0_ : Value, e = .returned (.tuple #[v0_, .int .i64 r2]) ∧ Kd.S k33 33 w' w.heap.size (fun _ => True) v0_ r1 ∧ Below w.heap.size w w' := by
  unfold delta_Parse.f at h
  by_cases h20 : (l1.length : Int) < 20
  · rw [if_pos h20] at h
    simp at h
    obtain ⟨h1, h2⟩ := h
    subst h1 h2
    refine (delta_Parse.short A0 c0 l0 A1 c1 l1 w h20).mono ?_
    rintro e w' ⟨rfl, hb⟩
    exact ⟨_, rfl, Kd.S_nil _ _ _ _ _, hb⟩
  rw [if_neg h20] at h
  by_cases hmx : l1.length < 140737488355328
  case neg =>
    rw [if_neg hmx] at h
    exact absurd h (by simp)
  rw [if_pos hmx] at h
  by_cases hg : (strOfNums (l1.take 4)).toList = ([84, 80, 68, 49] : List UInt8)
  case neg =>
    rw [if_neg hg] at h
    simp at h
    obtain ⟨h1, h2⟩ := h
    subst h1 h2
    refine (delta_Parse.nomagic A0 c0 l0 A1 c1 l1 w hr1 hc1 h20 hg).mono ?_
    rintro e w' ⟨rfl, hb⟩
    exact ⟨_, rfl, Kd.S_nil _ _ _ _ _, hb⟩
  rw [if_pos hg] at h
  have HH := Aside0.mk h
  have hd : decide ((l1.length : Int) < 20) = false := decide_eq_false h20
  obtain ⟨i0, hi, _, hsz, _⟩ := info_parts info5
  obtain ⟨hcut, hA, hC⟩ := print_take_of (P := Try.prog) (Value.int .u8) 0 22 5 .i64 Try.underlying22 hi hsz A1 c1 l1 4 (by omega) (by omega) hc1
  obtain ⟨y, hy⟩ : ∃ y : List Int, y = l1.take 4 := ⟨_, rfl⟩
  simp only [Int.reduceToNat] at hcut hA hC
  rw [← hy] at hcut hA hC hg
  have HY := Aside0.mk (Kd.C_of_reads (h1 := fun _ => rfl) (hA w (Kd.reads_of_C (d := (0 : Int)) hr1)))
  have hcv := Kd.C_string (P := Try.prog) (A := A1) (c := c1) Try.underlying22 Try.underlying5 Try.underlying9 HY.out
  have hb1 : ((strOfNums y).toList == ([84, 80, 68, 49] : List UInt8)) = true := by simpa using hg
  obtain ⟨hcutE, hAE, hCE⟩ := print_take_of (P := Try.prog) (Value.int .u8) 0 22 5 .i64 Try.underlying22 hi hsz A1 c1 l1 ((l1.length : Int) - 4) (by omega) (by omega) hc1
  have hE : ((l1.length : Int) - 4).toNat = l1.length - 4 := by omega
  rw [hE] at hcutE hAE hCE
  obtain ⟨A2, hcutM, hAM, hCM⟩ := print_mid_of (P := Try.prog) (Value.int .u8) 0 22 5 .i64 .i64 Try.underlying22 hi hsz A1 c1 l1 12 ((l1.length : Int) - 4) (by omega) (by omega) (by omega) hc1
  rw [hE] at hcutM hAM hCM
  simp only [Int.reduceToNat] at hcutM hAM hCM
  obtain ⟨yE, hyE⟩ : ∃ y : List Int, y = l1.take (l1.length - 4) := ⟨_, rfl⟩
  obtain ⟨yM, hyM⟩ : ∃ y : List Int, y = (l1.take (l1.length - 4)).drop 12 := ⟨_, rfl⟩
  have hlM : yM.length < 140737488355328 := by rw [hyM, List.length_drop, List.length_take]; omega
  rw [← hyM] at hcutM hAM hCM
  rw [← hyE] at hcutE hAE hCE
  have HH := Aside0.mk (by have := HH.out; rwa [← hyM, ← hyE] at this)
  have HYE := Aside0.mk (Kd.C_of_reads (h1 := fun _ => rfl) (hAE w (Kd.reads_of_C (d := (0 : Int)) hr1)))
  have HYM := Aside0.mk (Kd.C_of_reads (h1 := fun _ => rfl) (hAM w (Kd.reads_of_C (d := (0 : Int)) hr1)))
  have HC0 := Aside0.mk hr0
  have HC1 := Aside0.mk hr1
  have HLE := Aside0.mk hCE
  have HLM := Aside0.mk hCM
  have HLX := Aside0.mk hlM
  have hm1 : l1.length ≤ 9223372036854775807 := by omega
  have hm0 : l0.length ≤ 9223372036854775807 := hr0.2.1
  clear hA hC hi hsz hy hg HY hr1 hr0 hyE hyM hE hAE hCE hAM hCM hlM h
  go_enter Try.func23, Try.ntmps23
  go_wp2_with fail
  have hg0 := heap_alloc_new w (.cells #[.slice A1 l1.length c1, .int .i64 4] 56)
  have hB0 := below_alloc (Below.refl w.heap.size w) (.cells #[.slice A1 l1.length c1, .int .i64 4] 56)
  obtain ⟨g, hgd⟩ : ∃ g, g = w.heap.size := ⟨_, rfl⟩
  rw [← hgd] at hg0 ⊢
  have hgw : w.heap.size ≤ g := by omega
  have HGW := Aside0.mk hgw
  generalize w.alloc (.cells #[.slice A1 l1.length c1, .int .i64 4] 56) = W0 at hg0 hB0 ⊢
  clear hgd hgw
  have hq1 := dp_get_range l1 4
  have hq2 := dp_get_range l1 8
  have hq3 := dp_get_range l1 ((l1.length : Int) - 4)
  refine (delta_Parse.num W0 g A1 c1 l1 4 (dp_get l1 4) hg0 (Kd.C_below HC1.out hB0) hc1 (dp_get_ok l1 4 (by omega) (by omega) hm1) hq1.1 hq1.2 (by omega) (by omega)).mono ?_
  rintro e W1 ⟨rfl, n1, rfl⟩
  have hg1 := blk_set (w := W0.drewN n1) hg0 1 (.int .i64 (4 + 4))
  have hB1 := (pw_below_drewN hB0 n1).setCell (p := ⟨g, 1, none⟩) HGW.out (.int .i64 (4 + 4))
  replace hg1 : ((W0.drewN n1).setCell ⟨g, 1, none⟩ (.int .i64 (4 + 4))).heap[g]? = some (.cells #[.slice A1 l1.length c1, .int .i64 8] 56 (0, 0)) := hg1
  generalize (W0.drewN n1).setCell ⟨g, 1, none⟩ (.int .i64 (4 + 4)) = W1 at hg1 hB1 ⊢
  clear hg0 hB0
  have HG := Aside0.mk hg1
  have HB := Aside0.mk hB1
  clear hg1 hB1
  go_wp2_with fail
  refine (delta_Parse.num W1 g A1 c1 l1 8 (dp_get l1 8) HG.out (Kd.C_below HC1.out HB.out) hc1 (dp_get_ok l1 8 (by omega) (by omega) hm1) hq2.1 hq2.2 (by omega) (by omega)).mono ?_
  rintro e W2 ⟨rfl, n2, rfl⟩
  have hg1 := blk_set (w := W1.drewN n2) HG.out 1 (.int .i64 (8 + 4))
  have hB1 := (pw_below_drewN HB.out n2).setCell (p := ⟨g, 1, none⟩) HGW.out (.int .i64 (8 + 4))
  replace hg1 : ((W1.drewN n2).setCell ⟨g, 1, none⟩ (.int .i64 (8 + 4))).heap[g]? = some (.cells #[.slice A1 l1.length c1, .int .i64 12] 56 (0, 0)) := hg1
  generalize (W1.drewN n2).setCell ⟨g, 1, none⟩ (.int .i64 (8 + 4)) = W2 at hg1 hB1 ⊢
  clear HG HB
  have hx1 : W2.cell? ⟨g, 1, none⟩ = some (.int .i64 12) := blk_cell hg1 1
  have hf1 : W2.frozen? ⟨g, 1, none⟩ = false := blk_frozen hg1 1
  have hg2 := blk_set hg1 1 (.int .i64 ((l1.length : Int) - 4))
  have hB2 := hB1.setCell (p := ⟨g, 1, none⟩) HGW.out (.int .i64 ((l1.length : Int) - 4))
  replace hg2 : (W2.setCell ⟨g, 1, none⟩ (.int .i64 ((l1.length : Int) - 4))).heap[g]? = some (.cells #[.slice A1 l1.length c1, .int .i64 ((l1.length : Int) - 4)] 56 (0, 0)) := hg2
  have HG := Aside0.mk hg2
  have HB := Aside0.mk hB2
  clear hg1 hB1 hg2 hB2
  go_wp2_with fail
  refine start_ (n := 9) (S := fun _ => True) (ds := []) #[false, false, false, false, false, false, false, false, false] (by kernel_rfl) rfl rfl trivial (fun hHeld => ?_)
  have hB3 := below_drew HB.out
  have hG3 : (W2.setCell ⟨g, 1, none⟩ (.int .i64 ((l1.length : Int) - 4))).drew.heap[g]? = some (.cells #[.slice A1 l1.length c1, .int .i64 ((l1.length : Int) - 4)] 56 (0, 0)) := HG.out
  clear HB HG hx1 hf1
  have HG := Aside0.mk hG3
  have HB := Aside0.mk hB3
  clear hG3 hB3
  generalize (W2.setCell ⟨g, 1, none⟩ (.int .i64 ((l1.length : Int) - 4))).drew = W3 at HG HB ⊢
  refine pure_ (i := 0) (N := some 33) (v := ?_) (a' := ?_) #[true, false, false, false, false, false, false, false, false] rfl rfl (by kernel_rfl) (fun _ _ _ h => h) (Or.inl ⟨by rfl, ?_⟩) ?_ ?_
  rotate_left
  · intro w'
    go_simp
    with_reducible rfl
  rotate_left
  · simp only [Act.put, List.setIfInBounds_toArray, List.set_cons_zero, List.set_cons_succ]
    rfl
  refine pure_ (i := 2) (N := some 35) (v := ?_) (a' := ?_) #[true, false, true, false, false, false, false, false, false] rfl rfl (by kernel_rfl) (fun _ _ _ h => h) (Or.inl ⟨by rfl, ?_⟩) ?_ ?_
  rotate_left
  · intro w'
    go_simp
    with_reducible rfl
  rotate_left
  · simp only [Act.put, List.setIfInBounds_toArray, List.set_cons_zero, List.set_cons_succ]
    rfl
  refine pure_ (i := 3) (N := some 36) (v := ?_) (a' := ?_) #[true, false, true, true, false, false, false, false, false] rfl rfl (by kernel_rfl) (fun _ _ _ h => h) (Or.inl ⟨by rfl, ?_⟩) ?_ ?_
  rotate_left
  · intro w'
    go_simp
    with_reducible rfl
  rotate_left
  · simp only [Act.put, List.setIfInBounds_toArray, List.set_cons_zero, List.set_cons_succ]
    rfl
  refine pure_ (i := 4) (N := some 37) (v := ?_) (a' := ?_) #[true, false, true, true, true, false, false, false, false] rfl rfl (by kernel_rfl) (fun _ _ _ h => h) (Or.inl ⟨by rfl, ?_⟩) ?_ ?_
  rotate_left
  · intro w'
    go_simp
    with_reducible rfl
  rotate_left
  · simp only [Act.put, List.setIfInBounds_toArray, List.set_cons_zero, List.set_cons_succ]
    rfl
  obtain ⟨sv, hsv⟩ : ∃ s, s = dp_get l1 ((l1.length : Int) - 4) := ⟨_, rfl⟩
  refine join_ (σ := Addr) 3 #[true, true, true, true, true, true, false, false, false] (fun ad => [(34, .int .i64 (dp_get l1 ((l1.length : Int) - 4))), (38, .slice (some ad) 1 1)]) (fun ad W => Below w.heap.size w W ∧ Kd.C (Kd.slice 5 (Kd.int .u8)) W (some ad) 1 [yE]) ?cont ?first
  case first =>
    intro hcont
    refine two_ (i := 1) (j := 5) (Ni := some 34) (Nj := some 38) #[true, true, true, true, true, false, false, false, false] #[true, false, true, true, true, true, false, false, false] rfl rfl rfl rfl (by kernel_rfl) (by decide) (by decide) (fun K hK => ?_) (fun K hK => ?_)
    · refine call_ 33 #[.pointer (some ⟨g, 0, none⟩)] (by rfl) rfl (by have he := enters_ Try.func33 (by kernel_rfl) rfl #[.pointer (some ⟨g, 0, none⟩)] W3; go_simp) ?_
      refine (delta_Parse.num W3 g A1 c1 l1 ((l1.length : Int) - 4) (dp_get l1 ((l1.length : Int) - 4)) HG.out (Kd.C_below HC1.out HB.out) hc1 (dp_get_ok l1 _ (by omega) (by omega) hm1) hq3.1 hq3.2 (by omega) (by omega)).mono ?_
      rintro e W4 ⟨rfl, n3, rfl⟩
      have hB4 := (pw_below_drewN HB.out n3).setCell (p := ⟨g, 1, none⟩) HGW.out (.int .i64 ((l1.length : Int) - 4 + 4))
      generalize (W3.drewN n3).setCell ⟨g, 1, none⟩ (.int .i64 ((l1.length : Int) - 4 + 4)) = W4 at hB4 ⊢
      refine ⟨_, rfl, hK.out _ _ trivial (fun _ => ?_)⟩
      clear hK K
      refine norm_ (a' := ?_) ?_ ?_
      rotate_left
      · simp only [Act.put, List.setIfInBounds_toArray, List.set_cons_zero, List.set_cons_succ]
        rfl
      refine one_ (i := 5) (N := some 38) #[true, true, true, true, true, true, false, false, false] rfl rfl (by kernel_rfl) (by decide) (fun K hK => ?_)
      refine value_ (w1 := W4.alloc (.cells #[.slice A1 yE.length c1] 22)) (v := .slice (some ⟨W4.heap.size, 0, none⟩) 1 1) (by rfl) rfl ?_ ?_
      · go_simp
      refine hK.out _ _ trivial (fun _ => ?_)
      clear hK K
      have hC5 := sm_C_one (heap_alloc_new W4 (.cells #[.slice A1 yE.length c1] 22)) 5 .u8 yE rfl HLE.out (Kd.C_alloc (Kd.C_below HYE.out hB4) _)
      exact hcont ⟨W4.heap.size, 0, none⟩ _ ⟨below_alloc hB4 _, hC5⟩
    · refine value_ (w1 := W3.alloc (.cells #[.slice A1 yE.length c1] 22)) (v := .slice (some ⟨W3.heap.size, 0, none⟩) 1 1) (by rfl) rfl ?_ ?_
      · go_simp
      refine hK.out _ _ trivial (fun _ => ?_)
      clear hK K
      refine norm_ (a' := ?_) ?_ ?_
      rotate_left
      · simp only [Act.put, List.setIfInBounds_toArray, List.set_cons_zero, List.set_cons_succ]
        rfl
      have hw3 := heap_alloc_new W3 (.cells #[.slice A1 yE.length c1] 22)
      have hB3 := below_alloc HB.out (.cells #[.slice A1 yE.length c1] 22)
      have hG3 := blk_alloc HG.out (.cells #[.slice A1 yE.length c1] 22)
      generalize W3.alloc (.cells #[.slice A1 yE.length c1] 22) = W3' at hw3 hB3 hG3 ⊢
      refine one_ (i := 1) (N := some 34) #[true, true, true, true, true, true, false, false, false] rfl rfl (by kernel_rfl) (by decide) (fun K hK => ?_)
      refine call_ 33 #[.pointer (some ⟨g, 0, none⟩)] (by rfl) rfl (by have he := enters_ Try.func33 (by kernel_rfl) rfl #[.pointer (some ⟨g, 0, none⟩)] W3'; go_simp) ?_
      refine (delta_Parse.num W3' g A1 c1 l1 ((l1.length : Int) - 4) (dp_get l1 ((l1.length : Int) - 4)) hG3 (Kd.C_below HC1.out hB3) hc1 (dp_get_ok l1 _ (by omega) (by omega) hm1) hq3.1 hq3.2 (by omega) (by omega)).mono ?_
      rintro e W4 ⟨rfl, n3, rfl⟩
      have hB4 := (pw_below_drewN hB3 n3).setCell (p := ⟨g, 1, none⟩) HGW.out (.int .i64 ((l1.length : Int) - 4 + 4))
      have hw4 := blk_far (w := W3'.drewN n3) hw3 (p := ⟨g, 1, none⟩) (blk_ne hw3 hG3 (by decide)) (.int .i64 ((l1.length : Int) - 4 + 4))
      generalize (W3'.drewN n3).setCell ⟨g, 1, none⟩ (.int .i64 ((l1.length : Int) - 4 + 4)) = W4 at hB4 hw4 ⊢
      refine ⟨_, rfl, hK.out _ _ trivial (fun _ => ?_)⟩
      clear hK K
      have hC5 := sm_C_one hw4 5 .u8 yE rfl HLE.out (Kd.C_below HYE.out hB4)
      exact hcont ⟨W3.heap.size, 0, none⟩ _ ⟨hB4, hC5⟩
  case cont =>
    rintro ad W5 ⟨hB5, hC5⟩
    refine norm_ (a' := ?_) ?_ ?_
    rotate_left
    · simp only [putAll, Act.put, List.setIfInBounds_toArray, List.set_cons_zero, List.set_cons_succ]
      rfl
    refine one_ (i := 6) (N := some 39) #[true, true, true, true, true, true, true, false, false] rfl rfl (by kernel_rfl) (by decide) (fun K hK => ?_)
    refine call_ 32 #[.slice (some ad) 1 1] (by rfl) rfl (by have he := enters_ Try.func32 (by kernel_rfl) rfl #[.slice (some ad) 1 1] W5; go_simp) ?_
    refine (wire_Sum.calls (some ad) 1 [yE] (sm_sumf [yE]) W5 hC5 (by simp) rfl).mono ?_
    rintro e W6 ⟨rfl, hb6⟩
    refine ⟨_, rfl, hK.out _ _ trivial (fun _ => ?_)⟩
    have HB6 := Aside0.mk (below_step hB5 hb6)
    clear hK K hB5 hC5 hb6 HB HG hHeld
    refine norm_ (a' := ?_) ?_ ?_
    rotate_left
    · simp only [Act.put, List.setIfInBounds_toArray, List.set_cons_zero, List.set_cons_succ]
      rfl
    refine pure_ (i := 7) (N := some 40) (v := .int .i64 (sm_sumf [yE])) (a' := ?pa7) #[true, true, true, true, true, true, true, true, false] rfl rfl (by kernel_rfl) (fun _ _ _ h => h) (Or.inl ⟨by rfl, ?py7⟩) ?pe7 ?ph7
    case py7 =>
      intro w'
      go_simp
      rw [i64_w, dp_sum_w]
    case pe7 =>
      simp only [Act.put, List.setIfInBounds_toArray, List.set_cons_zero, List.set_cons_succ]
      rfl
    refine pure_ (i := 8) (N := some 41) (v := .bool (dp_get l1 ((l1.length : Int) - 4) != sm_sumf [yE])) (a' := ?pa8) #[true, true, true, true, true, true, true, true, true] rfl rfl (by kernel_rfl) (fun _ _ _ h => h) (Or.inl ⟨by rfl, ?py8⟩) ?pe8 ?ph8
    case py8 =>
      intro w'
      go_simp
    case pe8 =>
      simp only [Act.put, List.setIfInBounds_toArray, List.set_cons_zero, List.set_cons_succ]
      rfl
    refine done_ (by kernel_rfl) ?_
    clear hq1 hq2 hq3 hcut hcv hb1 hcutE
    have HB := HB6
    clear HB6
    by_cases hs : dp_get l1 ((l1.length : Int) - 4) = sm_sumf [yE]
    case neg =>
      have h := HH.out
      rw [if_neg hs] at h
      simp at h
      obtain ⟨h1, h2⟩ := h
      subst h1 h2
      have hne : (dp_get l1 ((l1.length : Int) - 4) != sm_sumf [yE]) = true := by simpa using hs
      clear hs
      go_wp2
      go_ret2
      exact ⟨_, rfl, Kd.S_nil _ _ _ _ _, HB.out⟩
    have HH := Aside0.mk (by have := HH.out; rwa [if_pos hs] at this)
    have hne : (dp_get l1 ((l1.length : Int) - 4) != sm_sumf [yE]) = false := by simpa using hs
    clear hs
    by_cases h4 : dp_get l1 4 = (l0.length : Int)
    case neg =>
      have h := HH.out
      rw [if_neg h4] at h
      simp at h
      obtain ⟨h1, h2⟩ := h
      subst h1 h2
      have h4b : (dp_get l1 4 != (l0.length : Int)) = true := by simpa using h4
      clear h4
      go_wp2
      go_ret2
      exact ⟨_, rfl, Kd.S_nil _ _ _ _ _, HB.out⟩
    have HH := Aside0.mk (by have := HH.out; rwa [if_pos h4] at this)
    have h4b : (dp_get l1 4 != (l0.length : Int)) = false := by simpa using h4
    clear h4
    go_wp2_with fail
    refine (wire_Sum.calls (some ⟨W6.heap.size, 0, none⟩) 1 [l0] (sm_sumf [l0]) _ (sm_C_one (heap_alloc_new W6 _) 5 .u8 l0 rfl hc0 (Kd.C_below HC0.out (below_alloc HB.out _))) (by simp) rfl).mono ?_
    rintro e W7 ⟨rfl, hb7⟩
    have hB7 := below_step (below_alloc HB.out _) hb7
    clear HB hb7
    have HB := Aside0.mk hB7
    clear hB7
    have hsw := dp_sum_w [l0]
    by_cases h8 : dp_get l1 8 = sm_sumf [l0]
    case neg =>
      have h := HH.out
      rw [if_neg h8] at h
      simp at h
      obtain ⟨h1, h2⟩ := h
      subst h1 h2
      have h8b : (dp_get l1 8 != sm_sumf [l0]) = true := by simpa using h8
      clear h8
      go_wp2
      go_ret2
      exact ⟨_, rfl, Kd.S_nil _ _ _ _ _, HB.out⟩
    have HH := Aside0.mk (by have := HH.out; rwa [if_pos h8] at this)
    have h8b : (dp_get l1 8 != sm_sumf [l0]) = false := by simpa using h8
    clear h8
    go_wp2_with fail
    clear hsw h8b h4b hne
    have h := HH.out
    replace h := Option.bind_eq_some_iff.mp h
    obtain ⟨⟨p1, p2⟩, hp, h⟩ := h
    simp only at h
    clear HH
    refine (delta_Parse.patches W7 A2 (c1 - 12) yM p1 p2 (Kd.C_below HYM.out HB.out) HLM.out HLX.out hp).mono ?_
    rintro e W8 ⟨vl, rfl, hrl, hb8⟩
    have hB8 := below_step HB.out hb8
    have hwl := HB.out.size
    obtain ⟨Al, cl, el⟩ := Kd.R_slice (Kd.S_R hrl)
    subst el
    have hrl2 := Kd.S_lower hrl hwl
    clear HB hp hrl hb8 hwl
    have HB := Aside0.mk hB8
    have HRL := Aside0.mk hrl2
    clear hB8 hrl2
    by_cases h0 : p2 = 0
    case neg =>
      rw [if_neg h0] at h
      simp at h
      obtain ⟨h1, h2⟩ := h
      subst h1 h2
      have h0b : (p2 != 0) = true := by simpa using h0
      clear h0
      go_wp2
      go_ret2
      exact ⟨_, rfl, Kd.S_nil _ _ _ _ _, HB.out⟩
    rw [if_pos h0] at h
    have h0b : (p2 != 0) = false := by simpa using h0
    clear h0
    replace h := Option.bind_eq_some_iff.mp h
    obtain ⟨t, ht, h⟩ := h
    obtain ⟨hcl, hCl⟩ : p1.length ≤ cl ∧ Kd.C k33 W8 Al p1.length p1 := by
      obtain ⟨A', c', e', h1', h2'⟩ := Kd.R_reads (Kd.S_R HRL.out)
      cases e'
      exact ⟨h1', h2'⟩
    have HT := Aside0.mk ht
    have HCL := Aside0.mk hCl
    clear ht hCl
    have hmp : p1.length ≤ 9223372036854775807 := HCL.out.2.1
    cases t with
    | false =>
      simp at h
      obtain ⟨h1, h2⟩ := h
      subst h1 h2
      go_wp2_with fail
      refine (delta_fit.calls k _ _ _ p1 false _ HCL.out hcl HT.out).mono ?_
      rintro e W9 ⟨rfl, hb9⟩
      have hB9 := Aside0.mk (below_step HB.out hb9)
      clear hb9
      go_wp2
      go_ret2
      exact ⟨_, rfl, Kd.S_nil _ _ _ _ _, hB9.out⟩
    | true =>
      simp at h
      obtain ⟨h1, h2⟩ := h
      subst h1 h2
      go_wp2_with fail
      refine (delta_fit.calls k _ _ _ p1 true _ HCL.out hcl HT.out).mono ?_
      rintro e W9 ⟨rfl, hb9⟩
      have hB9 := Aside0.mk (below_step HB.out hb9)
      have hR9 := Aside0.mk (Kd.S_below HRL.out hb9)
      clear hb9
      go_wp2
      go_ret2
      exact ⟨_, rfl, hR9.out, hB9.out⟩

end Go.Proofs.Ytlfkbkobkibemaa.PT
