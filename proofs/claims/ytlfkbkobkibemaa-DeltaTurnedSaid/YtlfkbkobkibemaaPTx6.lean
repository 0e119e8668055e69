-- Written by wip/xprint.py, a driver of this session's own over the kit's printer; Lean checks it.
import Derived.Test.YtlfkbkobkibemaaPTx0
namespace Go.Proofs.Ytlfkbkobkibemaa.PT
open Go.Proofs.YtlfkbkobkibemaaM Go.RowKit Go.Proofs.YtlfkbkobkibemaaW.PrintWords Go.Proofs.YtlfkbkobkibemaaW.PrintLast Go.Proofs.YtlfkbkobkibemaaW.PrintMore
attribute [local go_sem] max2_int min2_int max_two min_two max_three min_three max_four min_four   -- for this text's walks alone
set_option linter.unusedVariables false
set_option linter.unusedSimpArgs false

/-! ### turnpikeref21_Diff: function 14 -/
mutual
def turnpikeref21_Diff.j1 : Nat → List Int → List Int → Int → Option ((List (S33)))
  | 0, _, _, _ => none
  | k + 1, x0, x1, x5 => turnpikeref21_Diff.l1 k x0 x1 x5 0
def turnpikeref21_Diff.l1 : Nat → List Int → List Int → Int → Int → Option ((List (S33)))
  | 0, _, _, _, _ => none
  | k + 1, x0, x1, x5, x6 => if x6 < (wrap64 ((x0.length : Int) - x5)) then (if x6 < (wrap64 ((x1.length : Int) - x5)) then (if 0 ≤ (wrap64 ((wrap64 ((x0.length : Int) - 1)) - x6)) then (if (wrap64 ((wrap64 ((x0.length : Int) - 1)) - x6)) < (x0.length : Int) then (if 0 ≤ (wrap64 ((wrap64 ((x1.length : Int) - 1)) - x6)) then (if (wrap64 ((wrap64 ((x1.length : Int) - 1)) - x6)) < (x1.length : Int) then (if (rd x0 (wrap64 ((wrap64 ((x0.length : Int) - 1)) - x6))) = (rd x1 (wrap64 ((wrap64 ((x1.length : Int) - 1)) - x6))) then (turnpikeref21_Diff.l1 k x0 x1 x5 (wrap64 (x6 + 1))) else (if 0 ≤ x5 then (if x5 ≤ (wrap64 ((x1.length : Int) - x6)) then (if (wrap64 ((x1.length : Int) - x6)) ≤ (x1.length : Int) then (some (([(⟨x5, wrap64 ((wrap64 ((x0.length : Int) - x5)) - x6), ((x1.take ((wrap64 ((x1.length : Int) - x6)) : Int).toNat).drop (x5 : Int).toNat)⟩ : S33)] : List (S33)))) else (none)) else (none)) else (none))) else (none)) else (none)) else (none)) else (none)) else (if 0 ≤ x5 then (if x5 ≤ (wrap64 ((x1.length : Int) - x6)) then (if (wrap64 ((x1.length : Int) - x6)) ≤ (x1.length : Int) then (some (([(⟨x5, wrap64 ((wrap64 ((x0.length : Int) - x5)) - x6), ((x1.take ((wrap64 ((x1.length : Int) - x6)) : Int).toNat).drop (x5 : Int).toNat)⟩ : S33)] : List (S33)))) else (none)) else (none)) else (none))) else (if 0 ≤ x5 then (if x5 ≤ (wrap64 ((x1.length : Int) - x6)) then (if (wrap64 ((x1.length : Int) - x6)) ≤ (x1.length : Int) then (some (([(⟨x5, wrap64 ((wrap64 ((x0.length : Int) - x5)) - x6), ((x1.take ((wrap64 ((x1.length : Int) - x6)) : Int).toNat).drop (x5 : Int).toNat)⟩ : S33)] : List (S33)))) else (none)) else (none)) else (none))
def turnpikeref21_Diff.l0 : Nat → List Int → List Int → Int → Option ((List (S33)))
  | 0, _, _, _ => none
  | k + 1, x0, x1, x5 => if x5 < (x0.length : Int) then (if x5 < (x1.length : Int) then (if 0 ≤ x5 then (if (rd x0 x5) = (rd x1 x5) then (turnpikeref21_Diff.l0 k x0 x1 (wrap64 (x5 + 1))) else (turnpikeref21_Diff.j1 k x0 x1 x5)) else (none)) else (turnpikeref21_Diff.j1 k x0 x1 x5)) else (turnpikeref21_Diff.j1 k x0 x1 x5)
end
def turnpikeref21_Diff.f (k : Nat) (l0 : List Int) (l1 : List Int) : Option ((List (S33))) := if (strOfNums l0).toList = (strOfNums l1).toList then (some ([] : List (S33))) else (turnpikeref21_Diff.l0 k l0 l1 0)
theorem turnpikeref21_Diff.mono_l : ∀ k, (∀ y0 y1 y2, LeO (turnpikeref21_Diff.j1 k y0 y1 y2) (turnpikeref21_Diff.j1 (k + 1) y0 y1 y2)) ∧ (∀ y0 y1 y2 y3, LeO (turnpikeref21_Diff.l1 k y0 y1 y2 y3) (turnpikeref21_Diff.l1 (k + 1) y0 y1 y2 y3)) ∧ (∀ y0 y1 y2, LeO (turnpikeref21_Diff.l0 k y0 y1 y2) (turnpikeref21_Diff.l0 (k + 1) y0 y1 y2))
  | 0 => ⟨fun _ _ _ r h => by simp [turnpikeref21_Diff.j1] at h, fun _ _ _ _ r h => by simp [turnpikeref21_Diff.l1] at h, fun _ _ _ r h => by simp [turnpikeref21_Diff.l0] at h⟩
  | k + 1 => by
    obtain ⟨ih0, ih1, ih2⟩ := turnpikeref21_Diff.mono_l k
    refine ⟨?_, ?_, ?_⟩
    · intro y0 y1 y2
      unfold turnpikeref21_Diff.j1
      repeat' first
      | (with_reducible exact ih0 _ _ _)
      | (with_reducible exact ih1 _ _ _ _)
      | (with_reducible exact ih2 _ _ _)
      | (with_reducible exact LeO.refl _)
      | (with_reducible exact LeO.none _)
      | (with_reducible refine LeO.ite ?_ ?_)
      | (with_reducible refine LeO.bind ?_ (fun _ => ?_))
      | exact ih0 _ _ _
      | exact ih1 _ _ _ _
      | exact ih2 _ _ _
      | exact LeO.none _
      | refine LeO.ite ?_ ?_
      | refine LeO.bind ?_ (fun _ => ?_)
    · intro y0 y1 y2 y3
      unfold turnpikeref21_Diff.l1
      repeat' first
      | (with_reducible exact ih0 _ _ _)
      | (with_reducible exact ih1 _ _ _ _)
      | (with_reducible exact ih2 _ _ _)
      | (with_reducible exact LeO.refl _)
      | (with_reducible exact LeO.none _)
      | (with_reducible refine LeO.ite ?_ ?_)
      | (with_reducible refine LeO.bind ?_ (fun _ => ?_))
      | exact ih0 _ _ _
      | exact ih1 _ _ _ _
      | exact ih2 _ _ _
      | exact LeO.none _
      | refine LeO.ite ?_ ?_
      | refine LeO.bind ?_ (fun _ => ?_)
    · intro y0 y1 y2
      unfold turnpikeref21_Diff.l0
      repeat' first
      | (with_reducible exact ih0 _ _ _)
      | (with_reducible exact ih1 _ _ _ _)
      | (with_reducible exact ih2 _ _ _)
      | (with_reducible exact LeO.refl _)
      | (with_reducible exact LeO.none _)
      | (with_reducible refine LeO.ite ?_ ?_)
      | (with_reducible refine LeO.bind ?_ (fun _ => ?_))
      | exact ih0 _ _ _
      | exact ih1 _ _ _ _
      | exact ih2 _ _ _
      | exact LeO.none _
      | refine LeO.ite ?_ ?_
      | refine LeO.bind ?_ (fun _ => ?_)
theorem turnpikeref21_Diff.mono : ∀ a0 a1 k, LeO (turnpikeref21_Diff.f k a0 a1) (turnpikeref21_Diff.f (k + 1) a0 a1) := by
  intro a0 a1 k
  obtain ⟨ih0, ih1, ih2⟩ := turnpikeref21_Diff.mono_l k
  unfold turnpikeref21_Diff.f
  repeat' first
      | (with_reducible exact ih0 _ _ _)
      | (with_reducible exact ih1 _ _ _ _)
      | (with_reducible exact ih2 _ _ _)
      | (with_reducible exact LeO.refl _)
      | (with_reducible exact LeO.none _)
      | (with_reducible refine LeO.ite ?_ ?_)
      | (with_reducible refine LeO.bind ?_ (fun _ => ?_))
      | exact ih0 _ _ _
      | exact ih1 _ _ _ _
      | exact ih2 _ _ _
      | exact LeO.none _
      | refine LeO.ite ?_ ?_
      | refine LeO.bind ?_ (fun _ => ?_)
set_option maxHeartbeats 8000000 in
set_option maxRecDepth 100000 in
theorem turnpikeref21_Diff.calls (k : Nat) (A0 : Option Addr) (c0 : Nat) (l0 : List Int) (P1_ : Nat → Prop) (A1 : Option Addr) (c1 : Nat) (l1 : List Int) (r : List (S33)) (w : World) (hr0 : Kd.C (Kd.int .u8) w A0 l0.length l0) (hc0 : l0.length ≤ c0) (hs1 : Kd.V (Kd.int .u8) 5 w w.heap.size (fun k_ => P1_ k_) (.slice A1 l1.length c1) l1) (h : turnpikeref21_Diff.f k l0 l1 = some r) :
    Calls Try.prog 14 #[.slice A0 l0.length c0, .slice A1 l1.length c1] w fun e w' => ∃ v0_ : Value, e = .returned (v0_) ∧ Kd.N k33 33 w' w.heap.size (fun k_ => (P1_ k_ ∨ w.heap.size ≤ k_)) v0_ r ∧ Below w.heap.size w w' := by
  have hu33 := Try.underlying33
  have HR0 := Aside0.mk hr0
  have HC0 := Aside0.mk hc0
  clear hr0 hc0
  have HO1 := Aside0.mk (show Kd.V (Kd.int .u8) 5 w w.heap.size (fun k_ => (P1_ k_ ∨ w.heap.size ≤ k_)) (.slice A1 l1.length c1) l1 from Kd.V_mono hs1 (fun k_ hk => .inl hk))
  have HB := Aside0.mk (Below.refl w.heap.size w)
  have H : (if (strOfNums l0).toList = (strOfNums l1).toList then (some ([] : List (S33))) else (turnpikeref21_Diff.l0 k l0 l1 0)) = some r := h
  clear h
  by_cases c3 : (strOfNums l0).toList = (strOfNums l1).toList
  · rw [if_pos c3] at H
    have c3b0 : ((strOfNums l0).toList == (strOfNums l1).toList) = true := beq_iff_eq.mpr c3
    have c3b1 : ((strOfNums l0).toList != (strOfNums l1).toList) = false := bne_eq_false_iff_eq.mpr c3
    clear c3
    obtain rfl := Option.some.inj H
    have hcv4 := Kd.C_string (P := Try.prog) (A := A0) (c := c0) Try.underlying22 Try.underlying5 Try.underlying9 HR0.out
    have hcw4 := fun (nq_ : Nat) => Kd.C_string (P := Try.prog) (A := A0) (c := c0) Try.underlying22 Try.underlying5 Try.underlying9 (Kd.C_drewN HR0.out nq_)
    have hcv5 := V_string (P := Try.prog) Try.underlying22 Try.underlying5 Try.underlying9 HO1.out
    have hcw5 := fun (nq_ : Nat) => V_string (P := Try.prog) Try.underlying22 Try.underlying5 Try.underlying9 (Kd.V_drewN HO1.out nq_)
    go_enter Try.func14, Try.ntmps14
    go_wp2
    repeat (go_quiet (fail); try go_wp2)
    go_ret
    exact ⟨_, by first | rfl | (simp [errW_none, errW_some] <;> rfl) | (simp [*, errW_none, errW_some] <;> rfl), by first | exact Kd.S_nil _ _ _ _ _ | exact Kd.N_nil _ _ _ _ _ | exact Kd.V_nil _ _ _ _ _ | exact Kd.Q_nil _ _ _ _ _ | exact Kd.R_nil _ _ _ _ _, by repeat (first | (with_reducible first | exact HB.out | apply below_alloc | apply pw_below_drewN | apply below_drew1) | exact HB.out)⟩
  · rw [if_neg c3] at H
    have c3b0 : ((strOfNums l0).toList == (strOfNums l1).toList) = false := beq_eq_false_iff_ne.mpr c3
    have c3b1 : ((strOfNums l0).toList != (strOfNums l1).toList) = true := bne_iff_ne.mpr c3
    have HC6 := Aside0.mk H
    clear H
    have hcv7 := Kd.C_string (P := Try.prog) (A := A0) (c := c0) Try.underlying22 Try.underlying5 Try.underlying9 HR0.out
    have hcw7 := fun (nq_ : Nat) => Kd.C_string (P := Try.prog) (A := A0) (c := c0) Try.underlying22 Try.underlying5 Try.underlying9 (Kd.C_drewN HR0.out nq_)
    have hcv8 := V_string (P := Try.prog) Try.underlying22 Try.underlying5 Try.underlying9 HO1.out
    have hcw8 := fun (nq_ : Nat) => V_string (P := Try.prog) Try.underlying22 Try.underlying5 Try.underlying9 (Kd.V_drewN HO1.out nq_)
    go_enter Try.func14, Try.ntmps14
    go_upto_block 0 with (fail)
    repeat (go_quiet (fail); go_upto_block 0 with (fail))
    go_cut [5] (fun v5 wc => ∃ (kq : Nat) (x5_5 : Int), v5 = .int .i64 x5_5 ∧ Aside0 (turnpikeref21_Diff.j1 kq l0 l1 x5_5 = some r) ∧ Aside0 (kq ≤ k) ∧ Aside0 (Kd.V (Kd.int .u8) 5 wc w.heap.size (fun k_ => (P1_ k_ ∨ w.heap.size ≤ k_)) (.slice A1 l1.length c1) l1) ∧ Aside0 (Below w.heap.size w wc))
    case first =>
      have H := HC6.out
      clear HC6
      have H' := Aside0.mk H
      clear H
      go_wp2
      repeat (go_quiet (fail); try go_wp2)
      go_loopg [5] k (fun kq v5 w' => ∃ (x5_1 : Int), v5 = .int .i64 x5_1 ∧ Aside0 (turnpikeref21_Diff.l0 kq l0 l1 x5_1 = some r) ∧ Aside0 (kq ≤ k) ∧ Aside0 (Kd.V (Kd.int .u8) 5 w' w.heap.size (fun k_ => (P1_ k_ ∨ w.heap.size ≤ k_)) (.slice A1 l1.length c1) l1) ∧ Aside0 (Below w.heap.size w w'))
      case atStart => exact ⟨(0), (by first | rfl | (simp; done) | (simp [*]; done)), H', ⟨Nat.le_refl _⟩, ⟨by (with_reducible repeat (first | apply Kd.V_alloc | apply Kd.V_drewN | apply Kd.V_drew)); exact HO1.out⟩, ⟨by repeat (first | (with_reducible first | exact HB.out | apply below_alloc | apply pw_below_drewN | apply below_drew1) | exact HB.out)⟩⟩
      case round =>
        clear H'
        try clear c1
        try clear p2
        try clear c3
        try clear c3b0
        try clear c3b1
        try clear hcv4
        try clear hcv5
        try clear hcv7
        try clear hcv8
        obtain ⟨x5_1, rfl, HA, HK1, HO_1, HB⟩ := hrel
        cases gk with
        | zero => exact absurd HA.out (by simp [turnpikeref21_Diff.l0])
        | succ k1 =>
          have H := HA.out
          clear HA
          simp only [turnpikeref21_Diff.l0] at H
          by_cases c9 : x5_1 < (l0.length : Int)
          · rw [if_pos c9] at H
            have c9b0 : decide (x5_1 < (l0.length : Int)) = true := decide_eq_true c9
            clear c9
            (first | rw [c9b0] | (simp only [i64_w, i32_w]; rw [c9b0]) | skip)
            by_cases c10 : x5_1 < (l1.length : Int)
            · rw [if_pos c10] at H
              have c10b0 : decide (x5_1 < (l1.length : Int)) = true := decide_eq_true c10
              clear c10
              by_cases c11 : 0 ≤ x5_1
              · rw [if_pos c11] at H
                have c11b0 : decide (0 ≤ x5_1) = true := decide_eq_true c11
                clear c11
                by_cases c12 : (rd l0 x5_1) = (rd l1 x5_1)
                · rw [if_pos c12] at H
                  have c12b0 : ((rd l0 x5_1) == (rd l1 x5_1)) = true := beq_iff_eq.mpr c12
                  have c12b1 : ((rd l0 x5_1) != (rd l1 x5_1)) = false := bne_eq_false_iff_eq.mpr c12
                  clear c12
                  have H' := Aside0.mk H
                  clear H
                  have p150 : 0 ≤ (x5_1 : Int) := of_decide_eq_true (by first | (with_reducible assumption) | assumption)
                  have q150 : x5_1 < (l0.length : Int) := of_decide_eq_true (by first | (with_reducible assumption) | assumption)
                  obtain ⟨ad150, e150, hx150_0⟩ := Kd.at_int HR0.out x5_1 p150 q150
                  cases e150
                  replace hx150_0 := (HB.out.cell (World.block_lt_of_cell? w _ hx150_0)).trans hx150_0
                  replace p150 := eq_true p150
                  replace q150 := eq_true q150
                  have p151 : 0 ≤ (x5_1 : Int) := of_decide_eq_true (by first | (with_reducible assumption) | assumption)
                  have q151 : x5_1 < (l1.length : Int) := of_decide_eq_true (by first | (with_reducible assumption) | assumption)
                  obtain ⟨ad151, e151, hx151_0⟩ := Kd.at_int (Kd.V_reads' HO_1.out).2.2 x5_1 p151 q151
                  cases e151
                  replace p151 := eq_true p151
                  replace q151 := eq_true q151
                  go_wp2
                  repeat (go_quiet (fail); try go_wp2)
                  go_roundg k1
                  case measure => have := HK1.out; omega
                  case rel => exact ⟨(wrap64 (x5_1 + 1)), (by first | rfl | (simp; done) | (simp [*]; done)), H', ⟨by have := HK1.out; omega⟩, ⟨by (with_reducible repeat (first | apply Kd.V_alloc | apply Kd.V_drewN | apply Kd.V_drew)); exact HO_1.out⟩, ⟨by repeat (first | (with_reducible first | exact HB.out | apply below_alloc | apply pw_below_drewN | apply below_drew1) | exact HB.out)⟩⟩
                · rw [if_neg c12] at H
                  have c12b0 : ((rd l0 x5_1) == (rd l1 x5_1)) = false := beq_eq_false_iff_ne.mpr c12
                  have c12b1 : ((rd l0 x5_1) != (rd l1 x5_1)) = true := bne_iff_ne.mpr c12
                  have H' := Aside0.mk H
                  clear H
                  have p150 : 0 ≤ (x5_1 : Int) := of_decide_eq_true (by first | (with_reducible assumption) | assumption)
                  have q150 : x5_1 < (l0.length : Int) := of_decide_eq_true (by first | (with_reducible assumption) | assumption)
                  obtain ⟨ad150, e150, hx150_0⟩ := Kd.at_int HR0.out x5_1 p150 q150
                  cases e150
                  replace hx150_0 := (HB.out.cell (World.block_lt_of_cell? w _ hx150_0)).trans hx150_0
                  replace p150 := eq_true p150
                  replace q150 := eq_true q150
                  have p151 : 0 ≤ (x5_1 : Int) := of_decide_eq_true (by first | (with_reducible assumption) | assumption)
                  have q151 : x5_1 < (l1.length : Int) := of_decide_eq_true (by first | (with_reducible assumption) | assumption)
                  obtain ⟨ad151, e151, hx151_0⟩ := Kd.at_int (Kd.V_reads' HO_1.out).2.2 x5_1 p151 q151
                  cases e151
                  replace p151 := eq_true p151
                  replace q151 := eq_true q151
                  go_wp2
                  repeat (go_quiet (fail); try go_wp2)
                  go_meet
                  case rel => exact ⟨_, (x5_1), (by first | rfl | (simp; done) | (simp [*]; done)), H', ⟨by have := HK1.out; first | omega | exact Nat.le_refl _⟩, ⟨by (with_reducible repeat (first | apply Kd.V_alloc | apply Kd.V_drewN | apply Kd.V_drew)); exact HO_1.out⟩, ⟨by repeat (first | (with_reducible first | exact HB.out | apply below_alloc | apply pw_below_drewN | apply below_drew1) | exact HB.out)⟩⟩
              · rw [if_neg c11] at H
                exact absurd H (by simp)
            · rw [if_neg c10] at H
              have c10b0 : decide (x5_1 < (l1.length : Int)) = false := decide_eq_false c10
              clear c10
              have H' := Aside0.mk H
              clear H
              go_wp2
              repeat (go_quiet (fail); try go_wp2)
              go_meet
              case rel => exact ⟨_, (x5_1), (by first | rfl | (simp; done) | (simp [*]; done)), H', ⟨by have := HK1.out; first | omega | exact Nat.le_refl _⟩, ⟨by (with_reducible repeat (first | apply Kd.V_alloc | apply Kd.V_drewN | apply Kd.V_drew)); exact HO_1.out⟩, ⟨by repeat (first | (with_reducible first | exact HB.out | apply below_alloc | apply pw_below_drewN | apply below_drew1) | exact HB.out)⟩⟩
          · rw [if_neg c9] at H
            have c9b0 : decide (x5_1 < (l0.length : Int)) = false := decide_eq_false c9
            clear c9
            (first | rw [c9b0] | (simp only [i64_w, i32_w]; rw [c9b0]) | skip)
            have H' := Aside0.mk H
            clear H
            go_wp2
            repeat (go_quiet (fail); try go_wp2)
            go_meet
            case rel => exact ⟨_, (x5_1), (by first | rfl | (simp; done) | (simp [*]; done)), H', ⟨by have := HK1.out; first | omega | exact Nat.le_refl _⟩, ⟨by (with_reducible repeat (first | apply Kd.V_alloc | apply Kd.V_drewN | apply Kd.V_drew)); exact HO_1.out⟩, ⟨by repeat (first | (with_reducible first | exact HB.out | apply below_alloc | apply pw_below_drewN | apply below_drew1) | exact HB.out)⟩⟩
    case rest =>
      clear HC6
      try clear c1
      try clear p1
      try clear q1
      try clear hx1
      try clear p2
      try clear c3
      try clear c3b0
      try clear c3b1
      try clear hcv4
      try clear hcv5
      try clear p6
      try clear hcv7
      try clear hcv8
      try clear c9
      try clear c9b0
      try clear c10
      try clear c10b0
      try clear c11
      try clear c11b0
      try clear c12
      try clear c12b0
      try clear c12b1
      try clear hx150_0
      try clear hx151_0
      try clear p150
      try clear p151
      try clear p2
      try clear q150
      try clear q151
      obtain ⟨kq, x5_5, rfl, HA, HJ5, HO_1, HB⟩ := hcut
      cases kq with
      | zero => exact absurd HA.out (by simp [turnpikeref21_Diff.j1])
      | succ kj5 =>
        have H := HA.out
        clear HA
        simp only [turnpikeref21_Diff.j1] at H
        have H' := Aside0.mk H
        clear H
        go_wp2
        repeat (go_quiet (fail); try go_wp2)
        go_loopg [6] kj5 (fun kq v6 w' => ∃ (x6_2 : Int), v6 = .int .i64 x6_2 ∧ Aside0 (turnpikeref21_Diff.l1 kq l0 l1 x5_5 x6_2 = some r) ∧ Aside0 (kq ≤ kj5) ∧ Aside0 (Kd.V (Kd.int .u8) 5 w' w.heap.size (fun k_ => (P1_ k_ ∨ w.heap.size ≤ k_)) (.slice A1 l1.length c1) l1) ∧ Aside0 (Below w.heap.size w w'))
        case atStart => exact ⟨(0), (by first | rfl | (simp; done) | (simp [*]; done)), H', ⟨Nat.le_refl _⟩, ⟨by (with_reducible repeat (first | apply Kd.V_alloc | apply Kd.V_drewN | apply Kd.V_drew)); exact HO_1.out⟩, ⟨by repeat (first | (with_reducible first | exact HB.out | apply below_alloc | apply pw_below_drewN | apply below_drew1) | exact HB.out)⟩⟩
        case round =>
          clear H'
          try clear c1
          try clear p1
          try clear q1
          try clear hx1
          try clear p2
          try clear c3
          try clear c3b0
          try clear c3b1
          try clear hcv4
          try clear hcv5
          try clear p6
          try clear hcv7
          try clear hcv8
          try clear c9
          try clear c9b0
          try clear c10
          try clear c10b0
          try clear c11
          try clear c11b0
          try clear c12
          try clear c12b0
          try clear c12b1
          try clear hx150_0
          try clear hx151_0
          try clear p1
          try clear p150
          try clear p151
          try clear p2
          try clear p6
          try clear q1
          try clear q150
          try clear q151
          obtain ⟨x6_2, rfl, HA, HK2, HO_1, HB⟩ := hrel
          cases gk with
          | zero => exact absurd HA.out (by simp [turnpikeref21_Diff.l1])
          | succ k2 =>
            have H := HA.out
            clear HA
            simp only [turnpikeref21_Diff.l1] at H
            by_cases c13 : x6_2 < (wrap64 ((l0.length : Int) - x5_5))
            · rw [if_pos c13] at H
              have c13b0 : decide (x6_2 < (wrap64 ((l0.length : Int) - x5_5))) = true := decide_eq_true c13
              clear c13
              by_cases c14 : x6_2 < (wrap64 ((l1.length : Int) - x5_5))
              · rw [if_pos c14] at H
                have c14b0 : decide (x6_2 < (wrap64 ((l1.length : Int) - x5_5))) = true := decide_eq_true c14
                clear c14
                obtain ⟨ji15, hji15⟩ : ∃ j_ : Int, (wrap64 ((wrap64 ((l0.length : Int) - 1)) - x6_2)) = j_ := ⟨_, rfl⟩
                replace H : (if 0 ≤ (ji15) then (if (ji15) < (l0.length : Int) then (if 0 ≤ (wrap64 ((wrap64 ((l1.length : Int) - 1)) - x6_2)) then (if (wrap64 ((wrap64 ((l1.length : Int) - 1)) - x6_2)) < (l1.length : Int) then (if (rd l0 (ji15)) = (rd l1 (wrap64 ((wrap64 ((l1.length : Int) - 1)) - x6_2))) then (turnpikeref21_Diff.l1 k2 l0 l1 x5_5 (wrap64 (x6_2 + 1))) else (if 0 ≤ x5_5 then (if x5_5 ≤ (wrap64 ((l1.length : Int) - x6_2)) then (if (wrap64 ((l1.length : Int) - x6_2)) ≤ (l1.length : Int) then (some (([(⟨x5_5, wrap64 ((wrap64 ((l0.length : Int) - x5_5)) - x6_2), ((l1.take ((wrap64 ((l1.length : Int) - x6_2)) : Int).toNat).drop (x5_5 : Int).toNat)⟩ : S33)] : List (S33)))) else (none)) else (none)) else (none))) else (none)) else (none)) else (none)) else (none)) = some r := by first | (rw [hji15] at H; exact H) | (simp only [hji15] at H ⊢; exact H)
                have hji15w : (IntKind.i64.wrap ((wrap64 ((l0.length : Int) - 1)) - x6_2)) = ji15 := (i64_w _).trans hji15
                by_cases c16 : 0 ≤ (ji15)
                · rw [if_pos c16] at H
                  have c16b0 : decide (0 ≤ (ji15)) = true := decide_eq_true c16
                  clear c16
                  by_cases c17 : (ji15) < (l0.length : Int)
                  · rw [if_pos c17] at H
                    have c17b0 : decide ((ji15) < (l0.length : Int)) = true := decide_eq_true c17
                    clear c17
                    obtain ⟨ji18, hji18⟩ : ∃ j_ : Int, (wrap64 ((wrap64 ((l1.length : Int) - 1)) - x6_2)) = j_ := ⟨_, rfl⟩
                    replace H : (if 0 ≤ (ji18) then (if (ji18) < (l1.length : Int) then (if (rd l0 (ji15)) = (rd l1 (ji18)) then (turnpikeref21_Diff.l1 k2 l0 l1 x5_5 (wrap64 (x6_2 + 1))) else (if 0 ≤ x5_5 then (if x5_5 ≤ (wrap64 ((l1.length : Int) - x6_2)) then (if (wrap64 ((l1.length : Int) - x6_2)) ≤ (l1.length : Int) then (some (([(⟨x5_5, wrap64 ((wrap64 ((l0.length : Int) - x5_5)) - x6_2), ((l1.take ((wrap64 ((l1.length : Int) - x6_2)) : Int).toNat).drop (x5_5 : Int).toNat)⟩ : S33)] : List (S33)))) else (none)) else (none)) else (none))) else (none)) else (none)) = some r := by first | (rw [hji18] at H; exact H) | (simp only [hji18] at H ⊢; exact H)
                    have hji18w : (IntKind.i64.wrap ((wrap64 ((l1.length : Int) - 1)) - x6_2)) = ji18 := (i64_w _).trans hji18
                    by_cases c19 : 0 ≤ (ji18)
                    · rw [if_pos c19] at H
                      have c19b0 : decide (0 ≤ (ji18)) = true := decide_eq_true c19
                      clear c19
                      by_cases c20 : (ji18) < (l1.length : Int)
                      · rw [if_pos c20] at H
                        have c20b0 : decide ((ji18) < (l1.length : Int)) = true := decide_eq_true c20
                        clear c20
                        by_cases c21 : (rd l0 (ji15)) = (rd l1 (ji18))
                        · rw [if_pos c21] at H
                          have c21b0 : ((rd l0 (ji15)) == (rd l1 (ji18))) = true := beq_iff_eq.mpr c21
                          have c21b1 : ((rd l0 (ji15)) != (rd l1 (ji18))) = false := bne_eq_false_iff_eq.mpr c21
                          clear c21
                          have H' := Aside0.mk H
                          clear H
                          have p152 : 0 ≤ ((ji15) : Int) := of_decide_eq_true (by first | (with_reducible assumption) | assumption)
                          have q152 : (ji15) < (l0.length : Int) := of_decide_eq_true (by first | (with_reducible assumption) | assumption)
                          obtain ⟨ad152, e152, hx152_0⟩ := Kd.at_int HR0.out (ji15) p152 q152
                          cases e152
                          replace hx152_0 := (HB.out.cell (World.block_lt_of_cell? w _ hx152_0)).trans hx152_0
                          replace p152 := eq_true p152
                          replace q152 := eq_true q152
                          have p153 : 0 ≤ ((ji18) : Int) := of_decide_eq_true (by first | (with_reducible assumption) | assumption)
                          have q153 : (ji18) < (l1.length : Int) := of_decide_eq_true (by first | (with_reducible assumption) | assumption)
                          obtain ⟨ad153, e153, hx153_0⟩ := Kd.at_int (Kd.V_reads' HO_1.out).2.2 (ji18) p153 q153
                          cases e153
                          replace p153 := eq_true p153
                          replace q153 := eq_true q153
                          go_wp2
                          repeat (go_quiet (fail); try go_wp2)
                          go_roundg k2
                          case measure => have := HJ5.out; have := HK2.out; omega
                          case rel => exact ⟨(wrap64 (x6_2 + 1)), (by first | rfl | (simp; done) | (simp [*]; done)), H', ⟨by have := HJ5.out; have := HK2.out; omega⟩, ⟨by (with_reducible repeat (first | apply Kd.V_alloc | apply Kd.V_drewN | apply Kd.V_drew)); exact HO_1.out⟩, ⟨by repeat (first | (with_reducible first | exact HB.out | apply below_alloc | apply pw_below_drewN | apply below_drew1) | exact HB.out)⟩⟩
                        · rw [if_neg c21] at H
                          have c21b0 : ((rd l0 (ji15)) == (rd l1 (ji18))) = false := beq_eq_false_iff_ne.mpr c21
                          have c21b1 : ((rd l0 (ji15)) != (rd l1 (ji18))) = true := bne_iff_ne.mpr c21
                          by_cases c22 : 0 ≤ x5_5
                          · rw [if_pos c22] at H
                            have c22b0 := eq_true c22
                            have c22b1 : decide (0 ≤ x5_5) = true := decide_eq_true c22
                            clear c22
                            by_cases c23 : x5_5 ≤ (wrap64 ((l1.length : Int) - x6_2))
                            · rw [if_pos c23] at H
                              have c23b0 := eq_true c23
                              have c23b1 : decide (x5_5 ≤ (wrap64 ((l1.length : Int) - x6_2))) = true := decide_eq_true c23
                              clear c23
                              by_cases c24 : (wrap64 ((l1.length : Int) - x6_2)) ≤ (l1.length : Int)
                              · rw [if_pos c24] at H
                                have c24b0 := eq_true c24
                                have c24b1 : decide ((wrap64 ((l1.length : Int) - x6_2)) ≤ (l1.length : Int)) = true := decide_eq_true c24
                                clear c24
                                obtain ⟨y154, hy154⟩ : ∃ y_ : List Int, y_ = ((l1.take ((wrap64 ((l1.length : Int) - x6_2)) : Int).toNat).drop (x5_5 : Int).toNat) := ⟨_, rfl⟩
                                replace H : (some (([(⟨x5_5, wrap64 ((wrap64 ((l0.length : Int) - x5_5)) - x6_2), y154⟩ : S33)] : List (S33)))) = some r := by first | (rw [hy154]; with_reducible exact H) | (have H2_ := (Option.bind_some _ _).symm.trans H; rw [hy154]; with_reducible exact H2_) | (have H2_ := (Option.bind_some _ _).symm.trans H; with_reducible exact H2_) | with_reducible exact H | (rw [hy154]; exact H) | exact H
                                have Ny154 := Aside0.mk hy154
                                clear hy154
                                obtain ⟨y159, hy159⟩ : ∃ y_ : List (S33), y_ = (([(⟨x5_5, wrap64 ((wrap64 ((l0.length : Int) - x5_5)) - x6_2), y154⟩ : S33)] : List (S33))) := ⟨_, rfl⟩
                                replace H : (some y159) = some r := by first | (rw [hy159]; with_reducible exact H) | (have H2_ := (Option.bind_some _ _).symm.trans H; rw [hy159]; with_reducible exact H2_) | (have H2_ := (Option.bind_some _ _).symm.trans H; with_reducible exact H2_) | with_reducible exact H | (rw [hy159]; exact H) | exact H
                                have Ny159 := Aside0.mk hy159
                                clear hy159
                                obtain rfl := Option.some.inj H
                                have p152 : 0 ≤ ((ji15) : Int) := of_decide_eq_true (by first | (with_reducible assumption) | assumption)
                                have q152 : (ji15) < (l0.length : Int) := of_decide_eq_true (by first | (with_reducible assumption) | assumption)
                                obtain ⟨ad152, e152, hx152_0⟩ := Kd.at_int HR0.out (ji15) p152 q152
                                cases e152
                                replace hx152_0 := (HB.out.cell (World.block_lt_of_cell? w _ hx152_0)).trans hx152_0
                                replace p152 := eq_true p152
                                replace q152 := eq_true q152
                                have p153 : 0 ≤ ((ji18) : Int) := of_decide_eq_true (by first | (with_reducible assumption) | assumption)
                                have q153 : (ji18) < (l1.length : Int) := of_decide_eq_true (by first | (with_reducible assumption) | assumption)
                                obtain ⟨ad153, e153, hx153_0⟩ := Kd.at_int (Kd.V_reads' HO_1.out).2.2 (ji18) p153 q153
                                cases e153
                                replace p153 := eq_true p153
                                replace q153 := eq_true q153
                                have q25 : ((wrap64 ((l1.length : Int) - x6_2)) : Int) ≤ ((l1.length : Int) : Int) := of_decide_eq_true (by first | (with_reducible assumption) | assumption)
                                obtain ⟨i025, hi025, _, hsz25, _⟩ := info_parts info5
                                have hroom25 : l1.length ≤ c1 := (Kd.V_reads' HO_1.out).2.1
                                have hC25 : Kd.F (Kd.int .u8) _ _ (some ad153) l1.length l1 := (Kd.V_at (base := w.heap.size) HO_1.out).2.2
                                have ql25 : (x5_5 : Int) ≤ ((wrap64 ((l1.length : Int) - x6_2)) : Int) := of_decide_eq_true (by first | (with_reducible assumption) | assumption)
                                have q025 : (0 : Int) ≤ (x5_5 : Int) := of_decide_eq_true (by first | (with_reducible assumption) | assumption)
                                have hcut25 := cut_mid (P := Try.prog) 22 5 .i64 .i64 Try.underlying22 hi025 1 hsz25 (some ad153) l1.length c1 x5_5 (wrap64 ((l1.length : Int) - x6_2)) q025 ql25 q25 hroom25
                                have hr25 := Kd.F_mid (lo := (x5_5 : Int).toNat) (hi := ((wrap64 ((l1.length : Int) - x6_2)) : Int).toNat) (c := c1) hC25 (by omega) (by omega) hroom25
                                obtain ⟨A25, hA25⟩ : ∃ A1_, A1_ = (if c1 = (x5_5 : Int).toNat then (some ad153) else ((some ad153) : Option Addr).map (·.add ((x5_5 : Int).toNat * 1))) := ⟨_, rfl⟩
                                obtain ⟨c25, hc25⟩ : ∃ c1_, c1_ = c1 - (x5_5 : Int).toNat := ⟨_, rfl⟩
                                have hy25 : y154.length = ((wrap64 ((l1.length : Int) - x6_2)) : Int).toNat - (x5_5 : Int).toNat := (by rw [Ny154.out, List.length_drop, List.length_take] <;> omega)
                                rw [show ((l1).take ((wrap64 ((l1.length : Int) - x6_2)) : Int).toNat).drop (x5_5 : Int).toNat = y154 from Ny154.out.symm] at hr25
                                replace hr25 : Kd.F (Kd.int .u8) _ _ A25 y154.length y154 := (by rw [hA25]; exact hr25)
                                rw [← hy25, ← hA25, ← hc25] at hcut25
                                have HO158 := Aside0.mk (show Kd.V (Kd.int .u8) 5 _ w.heap.size _ (.slice A25 y154.length c25) y154 from Kd.V_mk (by rw [hy25, hc25]; exact Nat.sub_le_sub_right (Nat.le_trans (by omega) hroom25) _) hr25)
                                have HC158 := Aside0.mk (show y154.length ≤ c25 from by rw [hy25, hc25]; exact Nat.sub_le_sub_right (Nat.le_trans (by omega) hroom25) _)
                                clear hr25 hC25 hroom25 hi025 hsz25 hc25
                                have KY25 := Aside0.mk hy25
                                have KA25 := Aside0.mk hA25
                                clear hy25 hA25
                                replace q25 := eq_true q25
                                go_wp2_with (first | ((with_reducible refine gate_dst (N := 85) rfl ?_); (try (refine gate_guard (by rfl) ?_; dsimp only)); refine Kd.N_lit k33 _ 33 ?hg (N' := 85) ?hd (xs := ([(⟨x5_5, wrap64 ((wrap64 ((l0.length : Int) - x5_5)) - x6_2), y154⟩ : S33)] : List (S33))) (inner := [.int .i64 x5_5, .int .i64 (wrap64 ((wrap64 ((l0.length : Int) - x5_5)) - x6_2)), .slice A25 y154.length c25]) (ok := (fun k_ => (P1_ k_ ∨ w.heap.size ≤ k_))) (okp := (fun k_ => (P1_ k_ ∨ w.heap.size ≤ k_))) ?hr ?hp (fun _ hk => hk) ((show ∀ k_, wr.heap.size ≤ k_ → (fun k_ => (P1_ k_ ∨ w.heap.size ≤ k_)) k_ from fun k_ hk => (.inr (Nat.le_trans (below_size (by repeat (first | (with_reducible first | exact HB.out | apply below_alloc | apply pw_below_drewN | apply below_drew1) | exact HB.out))) hk))) _ (Nat.le_refl _)) (Below.refl _ _) (Nat.le_refl _) (by simp) ?_; (case hd => rfl); (case hg => rfl); (case hr => first | (go_simp; done) | (go_simp; rfl)); (case hp => exact (Reps.c3 (show Kd.FK k33 _ _ (⟨x5_5, wrap64 ((wrap64 ((l0.length : Int) - x5_5)) - x6_2), y154⟩ : S33) [.int .i64 x5_5, .int .i64 (wrap64 ((wrap64 ((l0.length : Int) - x5_5)) - x6_2)), .slice A25 y154.length c25] from (k33_mkF _ _ (⟨x5_5, wrap64 ((wrap64 ((l0.length : Int) - x5_5)) - x6_2), y154⟩ : S33) (Kd.V_reads' (Kd.V_mono (ok' := (fun k_ => (P1_ k_ ∨ w.heap.size ≤ k_))) (HO158.out) (fun k_ hk => hk))).2.1 (Kd.V_F (Kd.V_mono (ok' := (fun k_ => (P1_ k_ ∨ w.heap.size ≤ k_))) (by (with_reducible repeat (first | apply Kd.V_alloc | apply Kd.V_drewN | apply Kd.V_drew)); exact HO158.out) (fun k_ hk => hk))))) (Reps.none _ _))); intro v160 w26 ho27 hb hg_ hnew_; clear hg_ hnew_; (first | rw [← Ny159.out] at ho27 | (simp only [Int.reduceToNat] at ho27; rw [← Ny159.out] at ho27)); have n0_ := Aside0.mk (Kd.V_elder' (by (with_reducible repeat (first | apply Kd.V_alloc | apply Kd.V_drewN | apply Kd.V_drew)); exact HO_1.out) (Kd.N_base ho27) hb); have n1_ := Aside0.mk (Kd.V_elder' (by (with_reducible repeat (first | apply Kd.V_alloc | apply Kd.V_drewN | apply Kd.V_drew)); exact HO158.out) (Kd.N_base ho27) hb); have n2_ := Aside0.mk (Kd.N_lower ho27 (below_size (by repeat (first | (with_reducible first | exact HB.out | apply below_alloc | apply pw_below_drewN | apply below_drew1) | exact HB.out)))); have n3_ := Aside0.mk (below_step (by repeat (first | (with_reducible first | exact HB.out | apply below_alloc | apply pw_below_drewN | apply below_drew1) | exact HB.out)) hb); clear HO_1; clear HO158; clear HB; have HO_1 := n0_; have HO158 := n1_; have HO161 := n2_; have HB := n3_; clear n0_ n1_ n2_ n3_; clear hb ho27))
                                repeat (go_quiet (first | ((with_reducible refine gate_dst (N := 85) rfl ?_); (try (refine gate_guard (by rfl) ?_; dsimp only)); refine Kd.N_lit k33 _ 33 ?hg (N' := 85) ?hd (xs := ([(⟨x5_5, wrap64 ((wrap64 ((l0.length : Int) - x5_5)) - x6_2), y154⟩ : S33)] : List (S33))) (inner := [.int .i64 x5_5, .int .i64 (wrap64 ((wrap64 ((l0.length : Int) - x5_5)) - x6_2)), .slice A25 y154.length c25]) (ok := (fun k_ => (P1_ k_ ∨ w.heap.size ≤ k_))) (okp := (fun k_ => (P1_ k_ ∨ w.heap.size ≤ k_))) ?hr ?hp (fun _ hk => hk) ((show ∀ k_, wr.heap.size ≤ k_ → (fun k_ => (P1_ k_ ∨ w.heap.size ≤ k_)) k_ from fun k_ hk => (.inr (Nat.le_trans (below_size (by repeat (first | (with_reducible first | exact HB.out | apply below_alloc | apply pw_below_drewN | apply below_drew1) | exact HB.out))) hk))) _ (Nat.le_refl _)) (Below.refl _ _) (Nat.le_refl _) (by simp) ?_; (case hd => rfl); (case hg => rfl); (case hr => first | (go_simp; done) | (go_simp; rfl)); (case hp => exact (Reps.c3 (show Kd.FK k33 _ _ (⟨x5_5, wrap64 ((wrap64 ((l0.length : Int) - x5_5)) - x6_2), y154⟩ : S33) [.int .i64 x5_5, .int .i64 (wrap64 ((wrap64 ((l0.length : Int) - x5_5)) - x6_2)), .slice A25 y154.length c25] from (k33_mkF _ _ (⟨x5_5, wrap64 ((wrap64 ((l0.length : Int) - x5_5)) - x6_2), y154⟩ : S33) (Kd.V_reads' (Kd.V_mono (ok' := (fun k_ => (P1_ k_ ∨ w.heap.size ≤ k_))) (HO158.out) (fun k_ hk => hk))).2.1 (Kd.V_F (Kd.V_mono (ok' := (fun k_ => (P1_ k_ ∨ w.heap.size ≤ k_))) (by (with_reducible repeat (first | apply Kd.V_alloc | apply Kd.V_drewN | apply Kd.V_drew)); exact HO158.out) (fun k_ hk => hk))))) (Reps.none _ _))); intro v160 w26 ho27 hb hg_ hnew_; clear hg_ hnew_; (first | rw [← Ny159.out] at ho27 | (simp only [Int.reduceToNat] at ho27; rw [← Ny159.out] at ho27)); have n0_ := Aside0.mk (Kd.V_elder' (by (with_reducible repeat (first | apply Kd.V_alloc | apply Kd.V_drewN | apply Kd.V_drew)); exact HO_1.out) (Kd.N_base ho27) hb); have n1_ := Aside0.mk (Kd.V_elder' (by (with_reducible repeat (first | apply Kd.V_alloc | apply Kd.V_drewN | apply Kd.V_drew)); exact HO158.out) (Kd.N_base ho27) hb); have n2_ := Aside0.mk (Kd.N_lower ho27 (below_size (by repeat (first | (with_reducible first | exact HB.out | apply below_alloc | apply pw_below_drewN | apply below_drew1) | exact HB.out)))); have n3_ := Aside0.mk (below_step (by repeat (first | (with_reducible first | exact HB.out | apply below_alloc | apply pw_below_drewN | apply below_drew1) | exact HB.out)) hb); clear HO_1; clear HO158; clear HB; have HO_1 := n0_; have HO158 := n1_; have HO161 := n2_; have HB := n3_; clear n0_ n1_ n2_ n3_; clear hb ho27)); try go_wp2_with (first | ((with_reducible refine gate_dst (N := 85) rfl ?_); (try (refine gate_guard (by rfl) ?_; dsimp only)); refine Kd.N_lit k33 _ 33 ?hg (N' := 85) ?hd (xs := ([(⟨x5_5, wrap64 ((wrap64 ((l0.length : Int) - x5_5)) - x6_2), y154⟩ : S33)] : List (S33))) (inner := [.int .i64 x5_5, .int .i64 (wrap64 ((wrap64 ((l0.length : Int) - x5_5)) - x6_2)), .slice A25 y154.length c25]) (ok := (fun k_ => (P1_ k_ ∨ w.heap.size ≤ k_))) (okp := (fun k_ => (P1_ k_ ∨ w.heap.size ≤ k_))) ?hr ?hp (fun _ hk => hk) ((show ∀ k_, wr.heap.size ≤ k_ → (fun k_ => (P1_ k_ ∨ w.heap.size ≤ k_)) k_ from fun k_ hk => (.inr (Nat.le_trans (below_size (by repeat (first | (with_reducible first | exact HB.out | apply below_alloc | apply pw_below_drewN | apply below_drew1) | exact HB.out))) hk))) _ (Nat.le_refl _)) (Below.refl _ _) (Nat.le_refl _) (by simp) ?_; (case hd => rfl); (case hg => rfl); (case hr => first | (go_simp; done) | (go_simp; rfl)); (case hp => exact (Reps.c3 (show Kd.FK k33 _ _ (⟨x5_5, wrap64 ((wrap64 ((l0.length : Int) - x5_5)) - x6_2), y154⟩ : S33) [.int .i64 x5_5, .int .i64 (wrap64 ((wrap64 ((l0.length : Int) - x5_5)) - x6_2)), .slice A25 y154.length c25] from (k33_mkF _ _ (⟨x5_5, wrap64 ((wrap64 ((l0.length : Int) - x5_5)) - x6_2), y154⟩ : S33) (Kd.V_reads' (Kd.V_mono (ok' := (fun k_ => (P1_ k_ ∨ w.heap.size ≤ k_))) (HO158.out) (fun k_ hk => hk))).2.1 (Kd.V_F (Kd.V_mono (ok' := (fun k_ => (P1_ k_ ∨ w.heap.size ≤ k_))) (by (with_reducible repeat (first | apply Kd.V_alloc | apply Kd.V_drewN | apply Kd.V_drew)); exact HO158.out) (fun k_ hk => hk))))) (Reps.none _ _))); intro v160 w26 ho27 hb hg_ hnew_; clear hg_ hnew_; (first | rw [← Ny159.out] at ho27 | (simp only [Int.reduceToNat] at ho27; rw [← Ny159.out] at ho27)); have n0_ := Aside0.mk (Kd.V_elder' (by (with_reducible repeat (first | apply Kd.V_alloc | apply Kd.V_drewN | apply Kd.V_drew)); exact HO_1.out) (Kd.N_base ho27) hb); have n1_ := Aside0.mk (Kd.V_elder' (by (with_reducible repeat (first | apply Kd.V_alloc | apply Kd.V_drewN | apply Kd.V_drew)); exact HO158.out) (Kd.N_base ho27) hb); have n2_ := Aside0.mk (Kd.N_lower ho27 (below_size (by repeat (first | (with_reducible first | exact HB.out | apply below_alloc | apply pw_below_drewN | apply below_drew1) | exact HB.out)))); have n3_ := Aside0.mk (below_step (by repeat (first | (with_reducible first | exact HB.out | apply below_alloc | apply pw_below_drewN | apply below_drew1) | exact HB.out)) hb); clear HO_1; clear HO158; clear HB; have HO_1 := n0_; have HO158 := n1_; have HO161 := n2_; have HB := n3_; clear n0_ n1_ n2_ n3_; clear hb ho27)))
                                go_ret
                                exact ⟨_, by first | rfl | (simp [errW_none, errW_some] <;> rfl) | (simp only [← hji15, ← hji18]; first | rfl | (simp [errW_none, errW_some] <;> rfl)) | (simp [*, errW_none, errW_some] <;> rfl), by (with_reducible repeat (first | apply Kd.N_alloc | apply Kd.N_drewN | apply Kd.N_drew)); exact HO161.out, by repeat (first | (with_reducible first | exact HB.out | apply below_alloc | apply pw_below_drewN | apply below_drew1) | exact HB.out)⟩
                              · rw [if_neg c24] at H
                                exact absurd H (by simp)
                            · rw [if_neg c23] at H
                              exact absurd H (by simp)
                          · rw [if_neg c22] at H
                            exact absurd H (by simp)
                      · rw [if_neg c20] at H
                        exact absurd H (by simp)
                    · rw [if_neg c19] at H
                      exact absurd H (by simp)
                  · rw [if_neg c17] at H
                    exact absurd H (by simp)
                · rw [if_neg c16] at H
                  exact absurd H (by simp)
              · rw [if_neg c14] at H
                have c14b0 : decide (x6_2 < (wrap64 ((l1.length : Int) - x5_5))) = false := decide_eq_false c14
                clear c14
                by_cases c28 : 0 ≤ x5_5
                · rw [if_pos c28] at H
                  have c28b0 := eq_true c28
                  have c28b1 : decide (0 ≤ x5_5) = true := decide_eq_true c28
                  clear c28
                  by_cases c29 : x5_5 ≤ (wrap64 ((l1.length : Int) - x6_2))
                  · rw [if_pos c29] at H
                    have c29b0 := eq_true c29
                    have c29b1 : decide (x5_5 ≤ (wrap64 ((l1.length : Int) - x6_2))) = true := decide_eq_true c29
                    clear c29
                    by_cases c30 : (wrap64 ((l1.length : Int) - x6_2)) ≤ (l1.length : Int)
                    · rw [if_pos c30] at H
                      have c30b0 := eq_true c30
                      have c30b1 : decide ((wrap64 ((l1.length : Int) - x6_2)) ≤ (l1.length : Int)) = true := decide_eq_true c30
                      clear c30
                      obtain ⟨y162, hy162⟩ : ∃ y_ : List Int, y_ = ((l1.take ((wrap64 ((l1.length : Int) - x6_2)) : Int).toNat).drop (x5_5 : Int).toNat) := ⟨_, rfl⟩
                      replace H : (some (([(⟨x5_5, wrap64 ((wrap64 ((l0.length : Int) - x5_5)) - x6_2), y162⟩ : S33)] : List (S33)))) = some r := by first | (rw [hy162]; with_reducible exact H) | (have H2_ := (Option.bind_some _ _).symm.trans H; rw [hy162]; with_reducible exact H2_) | (have H2_ := (Option.bind_some _ _).symm.trans H; with_reducible exact H2_) | with_reducible exact H | (rw [hy162]; exact H) | exact H
                      have Ny162 := Aside0.mk hy162
                      clear hy162
                      obtain ⟨y167, hy167⟩ : ∃ y_ : List (S33), y_ = (([(⟨x5_5, wrap64 ((wrap64 ((l0.length : Int) - x5_5)) - x6_2), y162⟩ : S33)] : List (S33))) := ⟨_, rfl⟩
                      replace H : (some y167) = some r := by first | (rw [hy167]; with_reducible exact H) | (have H2_ := (Option.bind_some _ _).symm.trans H; rw [hy167]; with_reducible exact H2_) | (have H2_ := (Option.bind_some _ _).symm.trans H; with_reducible exact H2_) | with_reducible exact H | (rw [hy167]; exact H) | exact H
                      have Ny167 := Aside0.mk hy167
                      clear hy167
                      obtain rfl := Option.some.inj H
                      have q31 : ((wrap64 ((l1.length : Int) - x6_2)) : Int) ≤ ((l1.length : Int) : Int) := of_decide_eq_true (by first | (with_reducible assumption) | assumption)
                      obtain ⟨i031, hi031, _, hsz31, _⟩ := info_parts info5
                      have hroom31 : l1.length ≤ c1 := (Kd.V_reads' HO_1.out).2.1
                      have hC31 : Kd.F (Kd.int .u8) _ _ A1 l1.length l1 := (Kd.V_at (base := w.heap.size) HO_1.out).2.2
                      have ql31 : (x5_5 : Int) ≤ ((wrap64 ((l1.length : Int) - x6_2)) : Int) := of_decide_eq_true (by first | (with_reducible assumption) | assumption)
                      have q031 : (0 : Int) ≤ (x5_5 : Int) := of_decide_eq_true (by first | (with_reducible assumption) | assumption)
                      have hcut31 := cut_mid (P := Try.prog) 22 5 .i64 .i64 Try.underlying22 hi031 1 hsz31 A1 l1.length c1 x5_5 (wrap64 ((l1.length : Int) - x6_2)) q031 ql31 q31 hroom31
                      have hr31 := Kd.F_mid (lo := (x5_5 : Int).toNat) (hi := ((wrap64 ((l1.length : Int) - x6_2)) : Int).toNat) (c := c1) hC31 (by omega) (by omega) hroom31
                      obtain ⟨A31, hA31⟩ : ∃ A1_, A1_ = (if c1 = (x5_5 : Int).toNat then A1 else (A1 : Option Addr).map (·.add ((x5_5 : Int).toNat * 1))) := ⟨_, rfl⟩
                      obtain ⟨c31, hc31⟩ : ∃ c1_, c1_ = c1 - (x5_5 : Int).toNat := ⟨_, rfl⟩
                      have hy31 : y162.length = ((wrap64 ((l1.length : Int) - x6_2)) : Int).toNat - (x5_5 : Int).toNat := (by rw [Ny162.out, List.length_drop, List.length_take] <;> omega)
                      rw [show ((l1).take ((wrap64 ((l1.length : Int) - x6_2)) : Int).toNat).drop (x5_5 : Int).toNat = y162 from Ny162.out.symm] at hr31
                      replace hr31 : Kd.F (Kd.int .u8) _ _ A31 y162.length y162 := (by rw [hA31]; exact hr31)
                      rw [← hy31, ← hA31, ← hc31] at hcut31
                      have HO166 := Aside0.mk (show Kd.V (Kd.int .u8) 5 _ w.heap.size _ (.slice A31 y162.length c31) y162 from Kd.V_mk (by rw [hy31, hc31]; exact Nat.sub_le_sub_right (Nat.le_trans (by omega) hroom31) _) hr31)
                      have HC166 := Aside0.mk (show y162.length ≤ c31 from by rw [hy31, hc31]; exact Nat.sub_le_sub_right (Nat.le_trans (by omega) hroom31) _)
                      clear hr31 hC31 hroom31 hi031 hsz31 hc31
                      have KY31 := Aside0.mk hy31
                      have KA31 := Aside0.mk hA31
                      clear hy31 hA31
                      replace q31 := eq_true q31
                      go_wp2_with (first | ((with_reducible refine gate_dst (N := 85) rfl ?_); (try (refine gate_guard (by rfl) ?_; dsimp only)); refine Kd.N_lit k33 _ 33 ?hg (N' := 85) ?hd (xs := ([(⟨x5_5, wrap64 ((wrap64 ((l0.length : Int) - x5_5)) - x6_2), y162⟩ : S33)] : List (S33))) (inner := [.int .i64 x5_5, .int .i64 (wrap64 ((wrap64 ((l0.length : Int) - x5_5)) - x6_2)), .slice A31 y162.length c31]) (ok := (fun k_ => (P1_ k_ ∨ w.heap.size ≤ k_))) (okp := (fun k_ => (P1_ k_ ∨ w.heap.size ≤ k_))) ?hr ?hp (fun _ hk => hk) ((show ∀ k_, wr.heap.size ≤ k_ → (fun k_ => (P1_ k_ ∨ w.heap.size ≤ k_)) k_ from fun k_ hk => (.inr (Nat.le_trans (below_size (by repeat (first | (with_reducible first | exact HB.out | apply below_alloc | apply pw_below_drewN | apply below_drew1) | exact HB.out))) hk))) _ (Nat.le_refl _)) (Below.refl _ _) (Nat.le_refl _) (by simp) ?_; (case hd => rfl); (case hg => rfl); (case hr => first | (go_simp; done) | (go_simp; rfl)); (case hp => exact (Reps.c3 (show Kd.FK k33 _ _ (⟨x5_5, wrap64 ((wrap64 ((l0.length : Int) - x5_5)) - x6_2), y162⟩ : S33) [.int .i64 x5_5, .int .i64 (wrap64 ((wrap64 ((l0.length : Int) - x5_5)) - x6_2)), .slice A31 y162.length c31] from (k33_mkF _ _ (⟨x5_5, wrap64 ((wrap64 ((l0.length : Int) - x5_5)) - x6_2), y162⟩ : S33) (Kd.V_reads' (Kd.V_mono (ok' := (fun k_ => (P1_ k_ ∨ w.heap.size ≤ k_))) (HO166.out) (fun k_ hk => hk))).2.1 (Kd.V_F (Kd.V_mono (ok' := (fun k_ => (P1_ k_ ∨ w.heap.size ≤ k_))) (by (with_reducible repeat (first | apply Kd.V_alloc | apply Kd.V_drewN | apply Kd.V_drew)); exact HO166.out) (fun k_ hk => hk))))) (Reps.none _ _))); intro v168 w32 ho33 hb hg_ hnew_; clear hg_ hnew_; (first | rw [← Ny167.out] at ho33 | (simp only [Int.reduceToNat] at ho33; rw [← Ny167.out] at ho33)); have n0_ := Aside0.mk (Kd.V_elder' (by (with_reducible repeat (first | apply Kd.V_alloc | apply Kd.V_drewN | apply Kd.V_drew)); exact HO_1.out) (Kd.N_base ho33) hb); have n1_ := Aside0.mk (Kd.V_elder' (by (with_reducible repeat (first | apply Kd.V_alloc | apply Kd.V_drewN | apply Kd.V_drew)); exact HO166.out) (Kd.N_base ho33) hb); have n2_ := Aside0.mk (Kd.N_lower ho33 (below_size (by repeat (first | (with_reducible first | exact HB.out | apply below_alloc | apply pw_below_drewN | apply below_drew1) | exact HB.out)))); have n3_ := Aside0.mk (below_step (by repeat (first | (with_reducible first | exact HB.out | apply below_alloc | apply pw_below_drewN | apply below_drew1) | exact HB.out)) hb); clear HO_1; clear HO166; clear HB; have HO_1 := n0_; have HO166 := n1_; have HO169 := n2_; have HB := n3_; clear n0_ n1_ n2_ n3_; clear hb ho33))
                      repeat (go_quiet (first | ((with_reducible refine gate_dst (N := 85) rfl ?_); (try (refine gate_guard (by rfl) ?_; dsimp only)); refine Kd.N_lit k33 _ 33 ?hg (N' := 85) ?hd (xs := ([(⟨x5_5, wrap64 ((wrap64 ((l0.length : Int) - x5_5)) - x6_2), y162⟩ : S33)] : List (S33))) (inner := [.int .i64 x5_5, .int .i64 (wrap64 ((wrap64 ((l0.length : Int) - x5_5)) - x6_2)), .slice A31 y162.length c31]) (ok := (fun k_ => (P1_ k_ ∨ w.heap.size ≤ k_))) (okp := (fun k_ => (P1_ k_ ∨ w.heap.size ≤ k_))) ?hr ?hp (fun _ hk => hk) ((show ∀ k_, wr.heap.size ≤ k_ → (fun k_ => (P1_ k_ ∨ w.heap.size ≤ k_)) k_ from fun k_ hk => (.inr (Nat.le_trans (below_size (by repeat (first | (with_reducible first | exact HB.out | apply below_alloc | apply pw_below_drewN | apply below_drew1) | exact HB.out))) hk))) _ (Nat.le_refl _)) (Below.refl _ _) (Nat.le_refl _) (by simp) ?_; (case hd => rfl); (case hg => rfl); (case hr => first | (go_simp; done) | (go_simp; rfl)); (case hp => exact (Reps.c3 (show Kd.FK k33 _ _ (⟨x5_5, wrap64 ((wrap64 ((l0.length : Int) - x5_5)) - x6_2), y162⟩ : S33) [.int .i64 x5_5, .int .i64 (wrap64 ((wrap64 ((l0.length : Int) - x5_5)) - x6_2)), .slice A31 y162.length c31] from (k33_mkF _ _ (⟨x5_5, wrap64 ((wrap64 ((l0.length : Int) - x5_5)) - x6_2), y162⟩ : S33) (Kd.V_reads' (Kd.V_mono (ok' := (fun k_ => (P1_ k_ ∨ w.heap.size ≤ k_))) (HO166.out) (fun k_ hk => hk))).2.1 (Kd.V_F (Kd.V_mono (ok' := (fun k_ => (P1_ k_ ∨ w.heap.size ≤ k_))) (by (with_reducible repeat (first | apply Kd.V_alloc | apply Kd.V_drewN | apply Kd.V_drew)); exact HO166.out) (fun k_ hk => hk))))) (Reps.none _ _))); intro v168 w32 ho33 hb hg_ hnew_; clear hg_ hnew_; (first | rw [← Ny167.out] at ho33 | (simp only [Int.reduceToNat] at ho33; rw [← Ny167.out] at ho33)); have n0_ := Aside0.mk (Kd.V_elder' (by (with_reducible repeat (first | apply Kd.V_alloc | apply Kd.V_drewN | apply Kd.V_drew)); exact HO_1.out) (Kd.N_base ho33) hb); have n1_ := Aside0.mk (Kd.V_elder' (by (with_reducible repeat (first | apply Kd.V_alloc | apply Kd.V_drewN | apply Kd.V_drew)); exact HO166.out) (Kd.N_base ho33) hb); have n2_ := Aside0.mk (Kd.N_lower ho33 (below_size (by repeat (first | (with_reducible first | exact HB.out | apply below_alloc | apply pw_below_drewN | apply below_drew1) | exact HB.out)))); have n3_ := Aside0.mk (below_step (by repeat (first | (with_reducible first | exact HB.out | apply below_alloc | apply pw_below_drewN | apply below_drew1) | exact HB.out)) hb); clear HO_1; clear HO166; clear HB; have HO_1 := n0_; have HO166 := n1_; have HO169 := n2_; have HB := n3_; clear n0_ n1_ n2_ n3_; clear hb ho33)); try go_wp2_with (first | ((with_reducible refine gate_dst (N := 85) rfl ?_); (try (refine gate_guard (by rfl) ?_; dsimp only)); refine Kd.N_lit k33 _ 33 ?hg (N' := 85) ?hd (xs := ([(⟨x5_5, wrap64 ((wrap64 ((l0.length : Int) - x5_5)) - x6_2), y162⟩ : S33)] : List (S33))) (inner := [.int .i64 x5_5, .int .i64 (wrap64 ((wrap64 ((l0.length : Int) - x5_5)) - x6_2)), .slice A31 y162.length c31]) (ok := (fun k_ => (P1_ k_ ∨ w.heap.size ≤ k_))) (okp := (fun k_ => (P1_ k_ ∨ w.heap.size ≤ k_))) ?hr ?hp (fun _ hk => hk) ((show ∀ k_, wr.heap.size ≤ k_ → (fun k_ => (P1_ k_ ∨ w.heap.size ≤ k_)) k_ from fun k_ hk => (.inr (Nat.le_trans (below_size (by repeat (first | (with_reducible first | exact HB.out | apply below_alloc | apply pw_below_drewN | apply below_drew1) | exact HB.out))) hk))) _ (Nat.le_refl _)) (Below.refl _ _) (Nat.le_refl _) (by simp) ?_; (case hd => rfl); (case hg => rfl); (case hr => first | (go_simp; done) | (go_simp; rfl)); (case hp => exact (Reps.c3 (show Kd.FK k33 _ _ (⟨x5_5, wrap64 ((wrap64 ((l0.length : Int) - x5_5)) - x6_2), y162⟩ : S33) [.int .i64 x5_5, .int .i64 (wrap64 ((wrap64 ((l0.length : Int) - x5_5)) - x6_2)), .slice A31 y162.length c31] from (k33_mkF _ _ (⟨x5_5, wrap64 ((wrap64 ((l0.length : Int) - x5_5)) - x6_2), y162⟩ : S33) (Kd.V_reads' (Kd.V_mono (ok' := (fun k_ => (P1_ k_ ∨ w.heap.size ≤ k_))) (HO166.out) (fun k_ hk => hk))).2.1 (Kd.V_F (Kd.V_mono (ok' := (fun k_ => (P1_ k_ ∨ w.heap.size ≤ k_))) (by (with_reducible repeat (first | apply Kd.V_alloc | apply Kd.V_drewN | apply Kd.V_drew)); exact HO166.out) (fun k_ hk => hk))))) (Reps.none _ _))); intro v168 w32 ho33 hb hg_ hnew_; clear hg_ hnew_; (first | rw [← Ny167.out] at ho33 | (simp only [Int.reduceToNat] at ho33; rw [← Ny167.out] at ho33)); have n0_ := Aside0.mk (Kd.V_elder' (by (with_reducible repeat (first | apply Kd.V_alloc | apply Kd.V_drewN | apply Kd.V_drew)); exact HO_1.out) (Kd.N_base ho33) hb); have n1_ := Aside0.mk (Kd.V_elder' (by (with_reducible repeat (first | apply Kd.V_alloc | apply Kd.V_drewN | apply Kd.V_drew)); exact HO166.out) (Kd.N_base ho33) hb); have n2_ := Aside0.mk (Kd.N_lower ho33 (below_size (by repeat (first | (with_reducible first | exact HB.out | apply below_alloc | apply pw_below_drewN | apply below_drew1) | exact HB.out)))); have n3_ := Aside0.mk (below_step (by repeat (first | (with_reducible first | exact HB.out | apply below_alloc | apply pw_below_drewN | apply below_drew1) | exact HB.out)) hb); clear HO_1; clear HO166; clear HB; have HO_1 := n0_; have HO166 := n1_; have HO169 := n2_; have HB := n3_; clear n0_ n1_ n2_ n3_; clear hb ho33)))
                      go_ret
                      exact ⟨_, by first | rfl | (simp [errW_none, errW_some] <;> rfl) | (simp [*, errW_none, errW_some] <;> rfl), by (with_reducible repeat (first | apply Kd.N_alloc | apply Kd.N_drewN | apply Kd.N_drew)); exact HO169.out, by repeat (first | (with_reducible first | exact HB.out | apply below_alloc | apply pw_below_drewN | apply below_drew1) | exact HB.out)⟩
                    · rw [if_neg c30] at H
                      exact absurd H (by simp)
                  · rw [if_neg c29] at H
                    exact absurd H (by simp)
                · rw [if_neg c28] at H
                  exact absurd H (by simp)
            · rw [if_neg c13] at H
              have c13b0 : decide (x6_2 < (wrap64 ((l0.length : Int) - x5_5))) = false := decide_eq_false c13
              clear c13
              by_cases c34 : 0 ≤ x5_5
              · rw [if_pos c34] at H
                have c34b0 := eq_true c34
                have c34b1 : decide (0 ≤ x5_5) = true := decide_eq_true c34
                clear c34
                by_cases c35 : x5_5 ≤ (wrap64 ((l1.length : Int) - x6_2))
                · rw [if_pos c35] at H
                  have c35b0 := eq_true c35
                  have c35b1 : decide (x5_5 ≤ (wrap64 ((l1.length : Int) - x6_2))) = true := decide_eq_true c35
                  clear c35
                  by_cases c36 : (wrap64 ((l1.length : Int) - x6_2)) ≤ (l1.length : Int)
                  · rw [if_pos c36] at H
                    have c36b0 := eq_true c36
                    have c36b1 : decide ((wrap64 ((l1.length : Int) - x6_2)) ≤ (l1.length : Int)) = true := decide_eq_true c36
                    clear c36
                    obtain ⟨y170, hy170⟩ : ∃ y_ : List Int, y_ = ((l1.take ((wrap64 ((l1.length : Int) - x6_2)) : Int).toNat).drop (x5_5 : Int).toNat) := ⟨_, rfl⟩
                    replace H : (some (([(⟨x5_5, wrap64 ((wrap64 ((l0.length : Int) - x5_5)) - x6_2), y170⟩ : S33)] : List (S33)))) = some r := by first | (rw [hy170]; with_reducible exact H) | (have H2_ := (Option.bind_some _ _).symm.trans H; rw [hy170]; with_reducible exact H2_) | (have H2_ := (Option.bind_some _ _).symm.trans H; with_reducible exact H2_) | with_reducible exact H | (rw [hy170]; exact H) | exact H
                    have Ny170 := Aside0.mk hy170
                    clear hy170
                    obtain ⟨y175, hy175⟩ : ∃ y_ : List (S33), y_ = (([(⟨x5_5, wrap64 ((wrap64 ((l0.length : Int) - x5_5)) - x6_2), y170⟩ : S33)] : List (S33))) := ⟨_, rfl⟩
                    replace H : (some y175) = some r := by first | (rw [hy175]; with_reducible exact H) | (have H2_ := (Option.bind_some _ _).symm.trans H; rw [hy175]; with_reducible exact H2_) | (have H2_ := (Option.bind_some _ _).symm.trans H; with_reducible exact H2_) | with_reducible exact H | (rw [hy175]; exact H) | exact H
                    have Ny175 := Aside0.mk hy175
                    clear hy175
                    obtain rfl := Option.some.inj H
                    have q37 : ((wrap64 ((l1.length : Int) - x6_2)) : Int) ≤ ((l1.length : Int) : Int) := of_decide_eq_true (by first | (with_reducible assumption) | assumption)
                    obtain ⟨i037, hi037, _, hsz37, _⟩ := info_parts info5
                    have hroom37 : l1.length ≤ c1 := (Kd.V_reads' HO_1.out).2.1
                    have hC37 : Kd.F (Kd.int .u8) _ _ A1 l1.length l1 := (Kd.V_at (base := w.heap.size) HO_1.out).2.2
                    have ql37 : (x5_5 : Int) ≤ ((wrap64 ((l1.length : Int) - x6_2)) : Int) := of_decide_eq_true (by first | (with_reducible assumption) | assumption)
                    have q037 : (0 : Int) ≤ (x5_5 : Int) := of_decide_eq_true (by first | (with_reducible assumption) | assumption)
                    have hcut37 := cut_mid (P := Try.prog) 22 5 .i64 .i64 Try.underlying22 hi037 1 hsz37 A1 l1.length c1 x5_5 (wrap64 ((l1.length : Int) - x6_2)) q037 ql37 q37 hroom37
                    have hr37 := Kd.F_mid (lo := (x5_5 : Int).toNat) (hi := ((wrap64 ((l1.length : Int) - x6_2)) : Int).toNat) (c := c1) hC37 (by omega) (by omega) hroom37
                    obtain ⟨A37, hA37⟩ : ∃ A1_, A1_ = (if c1 = (x5_5 : Int).toNat then A1 else (A1 : Option Addr).map (·.add ((x5_5 : Int).toNat * 1))) := ⟨_, rfl⟩
                    obtain ⟨c37, hc37⟩ : ∃ c1_, c1_ = c1 - (x5_5 : Int).toNat := ⟨_, rfl⟩
                    have hy37 : y170.length = ((wrap64 ((l1.length : Int) - x6_2)) : Int).toNat - (x5_5 : Int).toNat := (by rw [Ny170.out, List.length_drop, List.length_take] <;> omega)
                    rw [show ((l1).take ((wrap64 ((l1.length : Int) - x6_2)) : Int).toNat).drop (x5_5 : Int).toNat = y170 from Ny170.out.symm] at hr37
                    replace hr37 : Kd.F (Kd.int .u8) _ _ A37 y170.length y170 := (by rw [hA37]; exact hr37)
                    rw [← hy37, ← hA37, ← hc37] at hcut37
                    have HO174 := Aside0.mk (show Kd.V (Kd.int .u8) 5 _ w.heap.size _ (.slice A37 y170.length c37) y170 from Kd.V_mk (by rw [hy37, hc37]; exact Nat.sub_le_sub_right (Nat.le_trans (by omega) hroom37) _) hr37)
                    have HC174 := Aside0.mk (show y170.length ≤ c37 from by rw [hy37, hc37]; exact Nat.sub_le_sub_right (Nat.le_trans (by omega) hroom37) _)
                    clear hr37 hC37 hroom37 hi037 hsz37 hc37
                    have KY37 := Aside0.mk hy37
                    have KA37 := Aside0.mk hA37
                    clear hy37 hA37
                    replace q37 := eq_true q37
                    go_wp2_with (first | ((with_reducible refine gate_dst (N := 85) rfl ?_); (try (refine gate_guard (by rfl) ?_; dsimp only)); refine Kd.N_lit k33 _ 33 ?hg (N' := 85) ?hd (xs := ([(⟨x5_5, wrap64 ((wrap64 ((l0.length : Int) - x5_5)) - x6_2), y170⟩ : S33)] : List (S33))) (inner := [.int .i64 x5_5, .int .i64 (wrap64 ((wrap64 ((l0.length : Int) - x5_5)) - x6_2)), .slice A37 y170.length c37]) (ok := (fun k_ => (P1_ k_ ∨ w.heap.size ≤ k_))) (okp := (fun k_ => (P1_ k_ ∨ w.heap.size ≤ k_))) ?hr ?hp (fun _ hk => hk) ((show ∀ k_, wr.heap.size ≤ k_ → (fun k_ => (P1_ k_ ∨ w.heap.size ≤ k_)) k_ from fun k_ hk => (.inr (Nat.le_trans (below_size (by repeat (first | (with_reducible first | exact HB.out | apply below_alloc | apply pw_below_drewN | apply below_drew1) | exact HB.out))) hk))) _ (Nat.le_refl _)) (Below.refl _ _) (Nat.le_refl _) (by simp) ?_; (case hd => rfl); (case hg => rfl); (case hr => first | (go_simp; done) | (go_simp; rfl)); (case hp => exact (Reps.c3 (show Kd.FK k33 _ _ (⟨x5_5, wrap64 ((wrap64 ((l0.length : Int) - x5_5)) - x6_2), y170⟩ : S33) [.int .i64 x5_5, .int .i64 (wrap64 ((wrap64 ((l0.length : Int) - x5_5)) - x6_2)), .slice A37 y170.length c37] from (k33_mkF _ _ (⟨x5_5, wrap64 ((wrap64 ((l0.length : Int) - x5_5)) - x6_2), y170⟩ : S33) (Kd.V_reads' (Kd.V_mono (ok' := (fun k_ => (P1_ k_ ∨ w.heap.size ≤ k_))) (HO174.out) (fun k_ hk => hk))).2.1 (Kd.V_F (Kd.V_mono (ok' := (fun k_ => (P1_ k_ ∨ w.heap.size ≤ k_))) (by (with_reducible repeat (first | apply Kd.V_alloc | apply Kd.V_drewN | apply Kd.V_drew)); exact HO174.out) (fun k_ hk => hk))))) (Reps.none _ _))); intro v176 w38 ho39 hb hg_ hnew_; clear hg_ hnew_; (first | rw [← Ny175.out] at ho39 | (simp only [Int.reduceToNat] at ho39; rw [← Ny175.out] at ho39)); have n0_ := Aside0.mk (Kd.V_elder' (by (with_reducible repeat (first | apply Kd.V_alloc | apply Kd.V_drewN | apply Kd.V_drew)); exact HO_1.out) (Kd.N_base ho39) hb); have n1_ := Aside0.mk (Kd.V_elder' (by (with_reducible repeat (first | apply Kd.V_alloc | apply Kd.V_drewN | apply Kd.V_drew)); exact HO174.out) (Kd.N_base ho39) hb); have n2_ := Aside0.mk (Kd.N_lower ho39 (below_size (by repeat (first | (with_reducible first | exact HB.out | apply below_alloc | apply pw_below_drewN | apply below_drew1) | exact HB.out)))); have n3_ := Aside0.mk (below_step (by repeat (first | (with_reducible first | exact HB.out | apply below_alloc | apply pw_below_drewN | apply below_drew1) | exact HB.out)) hb); clear HO_1; clear HO174; clear HB; have HO_1 := n0_; have HO174 := n1_; have HO177 := n2_; have HB := n3_; clear n0_ n1_ n2_ n3_; clear hb ho39))
                    repeat (go_quiet (first | ((with_reducible refine gate_dst (N := 85) rfl ?_); (try (refine gate_guard (by rfl) ?_; dsimp only)); refine Kd.N_lit k33 _ 33 ?hg (N' := 85) ?hd (xs := ([(⟨x5_5, wrap64 ((wrap64 ((l0.length : Int) - x5_5)) - x6_2), y170⟩ : S33)] : List (S33))) (inner := [.int .i64 x5_5, .int .i64 (wrap64 ((wrap64 ((l0.length : Int) - x5_5)) - x6_2)), .slice A37 y170.length c37]) (ok := (fun k_ => (P1_ k_ ∨ w.heap.size ≤ k_))) (okp := (fun k_ => (P1_ k_ ∨ w.heap.size ≤ k_))) ?hr ?hp (fun _ hk => hk) ((show ∀ k_, wr.heap.size ≤ k_ → (fun k_ => (P1_ k_ ∨ w.heap.size ≤ k_)) k_ from fun k_ hk => (.inr (Nat.le_trans (below_size (by repeat (first | (with_reducible first | exact HB.out | apply below_alloc | apply pw_below_drewN | apply below_drew1) | exact HB.out))) hk))) _ (Nat.le_refl _)) (Below.refl _ _) (Nat.le_refl _) (by simp) ?_; (case hd => rfl); (case hg => rfl); (case hr => first | (go_simp; done) | (go_simp; rfl)); (case hp => exact (Reps.c3 (show Kd.FK k33 _ _ (⟨x5_5, wrap64 ((wrap64 ((l0.length : Int) - x5_5)) - x6_2), y170⟩ : S33) [.int .i64 x5_5, .int .i64 (wrap64 ((wrap64 ((l0.length : Int) - x5_5)) - x6_2)), .slice A37 y170.length c37] from (k33_mkF _ _ (⟨x5_5, wrap64 ((wrap64 ((l0.length : Int) - x5_5)) - x6_2), y170⟩ : S33) (Kd.V_reads' (Kd.V_mono (ok' := (fun k_ => (P1_ k_ ∨ w.heap.size ≤ k_))) (HO174.out) (fun k_ hk => hk))).2.1 (Kd.V_F (Kd.V_mono (ok' := (fun k_ => (P1_ k_ ∨ w.heap.size ≤ k_))) (by (with_reducible repeat (first | apply Kd.V_alloc | apply Kd.V_drewN | apply Kd.V_drew)); exact HO174.out) (fun k_ hk => hk))))) (Reps.none _ _))); intro v176 w38 ho39 hb hg_ hnew_; clear hg_ hnew_; (first | rw [← Ny175.out] at ho39 | (simp only [Int.reduceToNat] at ho39; rw [← Ny175.out] at ho39)); have n0_ := Aside0.mk (Kd.V_elder' (by (with_reducible repeat (first | apply Kd.V_alloc | apply Kd.V_drewN | apply Kd.V_drew)); exact HO_1.out) (Kd.N_base ho39) hb); have n1_ := Aside0.mk (Kd.V_elder' (by (with_reducible repeat (first | apply Kd.V_alloc | apply Kd.V_drewN | apply Kd.V_drew)); exact HO174.out) (Kd.N_base ho39) hb); have n2_ := Aside0.mk (Kd.N_lower ho39 (below_size (by repeat (first | (with_reducible first | exact HB.out | apply below_alloc | apply pw_below_drewN | apply below_drew1) | exact HB.out)))); have n3_ := Aside0.mk (below_step (by repeat (first | (with_reducible first | exact HB.out | apply below_alloc | apply pw_below_drewN | apply below_drew1) | exact HB.out)) hb); clear HO_1; clear HO174; clear HB; have HO_1 := n0_; have HO174 := n1_; have HO177 := n2_; have HB := n3_; clear n0_ n1_ n2_ n3_; clear hb ho39)); try go_wp2_with (first | ((with_reducible refine gate_dst (N := 85) rfl ?_); (try (refine gate_guard (by rfl) ?_; dsimp only)); refine Kd.N_lit k33 _ 33 ?hg (N' := 85) ?hd (xs := ([(⟨x5_5, wrap64 ((wrap64 ((l0.length : Int) - x5_5)) - x6_2), y170⟩ : S33)] : List (S33))) (inner := [.int .i64 x5_5, .int .i64 (wrap64 ((wrap64 ((l0.length : Int) - x5_5)) - x6_2)), .slice A37 y170.length c37]) (ok := (fun k_ => (P1_ k_ ∨ w.heap.size ≤ k_))) (okp := (fun k_ => (P1_ k_ ∨ w.heap.size ≤ k_))) ?hr ?hp (fun _ hk => hk) ((show ∀ k_, wr.heap.size ≤ k_ → (fun k_ => (P1_ k_ ∨ w.heap.size ≤ k_)) k_ from fun k_ hk => (.inr (Nat.le_trans (below_size (by repeat (first | (with_reducible first | exact HB.out | apply below_alloc | apply pw_below_drewN | apply below_drew1) | exact HB.out))) hk))) _ (Nat.le_refl _)) (Below.refl _ _) (Nat.le_refl _) (by simp) ?_; (case hd => rfl); (case hg => rfl); (case hr => first | (go_simp; done) | (go_simp; rfl)); (case hp => exact (Reps.c3 (show Kd.FK k33 _ _ (⟨x5_5, wrap64 ((wrap64 ((l0.length : Int) - x5_5)) - x6_2), y170⟩ : S33) [.int .i64 x5_5, .int .i64 (wrap64 ((wrap64 ((l0.length : Int) - x5_5)) - x6_2)), .slice A37 y170.length c37] from (k33_mkF _ _ (⟨x5_5, wrap64 ((wrap64 ((l0.length : Int) - x5_5)) - x6_2), y170⟩ : S33) (Kd.V_reads' (Kd.V_mono (ok' := (fun k_ => (P1_ k_ ∨ w.heap.size ≤ k_))) (HO174.out) (fun k_ hk => hk))).2.1 (Kd.V_F (Kd.V_mono (ok' := (fun k_ => (P1_ k_ ∨ w.heap.size ≤ k_))) (by (with_reducible repeat (first | apply Kd.V_alloc | apply Kd.V_drewN | apply Kd.V_drew)); exact HO174.out) (fun k_ hk => hk))))) (Reps.none _ _))); intro v176 w38 ho39 hb hg_ hnew_; clear hg_ hnew_; (first | rw [← Ny175.out] at ho39 | (simp only [Int.reduceToNat] at ho39; rw [← Ny175.out] at ho39)); have n0_ := Aside0.mk (Kd.V_elder' (by (with_reducible repeat (first | apply Kd.V_alloc | apply Kd.V_drewN | apply Kd.V_drew)); exact HO_1.out) (Kd.N_base ho39) hb); have n1_ := Aside0.mk (Kd.V_elder' (by (with_reducible repeat (first | apply Kd.V_alloc | apply Kd.V_drewN | apply Kd.V_drew)); exact HO174.out) (Kd.N_base ho39) hb); have n2_ := Aside0.mk (Kd.N_lower ho39 (below_size (by repeat (first | (with_reducible first | exact HB.out | apply below_alloc | apply pw_below_drewN | apply below_drew1) | exact HB.out)))); have n3_ := Aside0.mk (below_step (by repeat (first | (with_reducible first | exact HB.out | apply below_alloc | apply pw_below_drewN | apply below_drew1) | exact HB.out)) hb); clear HO_1; clear HO174; clear HB; have HO_1 := n0_; have HO174 := n1_; have HO177 := n2_; have HB := n3_; clear n0_ n1_ n2_ n3_; clear hb ho39)))
                    go_ret
                    exact ⟨_, by first | rfl | (simp [errW_none, errW_some] <;> rfl) | (simp [*, errW_none, errW_some] <;> rfl), by (with_reducible repeat (first | apply Kd.N_alloc | apply Kd.N_drewN | apply Kd.N_drew)); exact HO177.out, by repeat (first | (with_reducible first | exact HB.out | apply below_alloc | apply pw_below_drewN | apply below_drew1) | exact HB.out)⟩
                  · rw [if_neg c36] at H
                    exact absurd H (by simp)
                · rw [if_neg c35] at H
                  exact absurd H (by simp)
              · rw [if_neg c34] at H
                exact absurd H (by simp)

end Go.Proofs.Ytlfkbkobkibemaa.PT
