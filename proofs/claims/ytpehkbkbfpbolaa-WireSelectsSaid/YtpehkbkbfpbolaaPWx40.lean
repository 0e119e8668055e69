-- Written by wip/xprint.py, a driver of this session's own over the kit's printer; Lean checks it.
import Derived.Test.YtpehkbkbfpbolaaPWx0
import Derived.Test.YtpehkbkbfpbolaaPWx5
import Derived.Test.YtpehkbkbfpbolaaPWx25
import Derived.Test.YtpehkbkbfpbolaaPWx30
import Derived.Test.YtpehkbkbfpbolaaPWx31
import Derived.Test.YtpehkbkbfpbolaaPWx34
namespace Go.Proofs.Ytpehkbkbfpbolaa.PW
open Go.Proofs.YtpehkbkbfpbolaaM Go.RowKit Go.Proofs.YtpehkbkbfpbolaaW.PrintWords Go.Proofs.YtpehkbkbfpbolaaW.PrintLast Go.Proofs.YtpehkbkbfpbolaaW.PrintMore
attribute [local go_sem] max2_int min2_int max_two min_two max_three min_three max_four min_four   -- for this text's walks alone
set_option linter.unusedVariables false
set_option linter.unusedSimpArgs false

/-! ### turnpikelaw13_WireSelects: function 10 -/
mutual
def turnpikelaw13_WireSelects.j0 : Nat → List Int → Int → Bool → Option (Bool)
  | 0, _, _, _ => none
  | k + 1, x0, x1, x27 => if x27 = true then (some true) else ((wire_Ones.f k x0).bind fun t336 => (turnpikelaw13_WireSelects.l0 k x0 x1 t336 0 0 0))
def turnpikelaw13_WireSelects.l0 : Nat → List Int → Int → Int → Int → Int → Int → Option (Bool)
  | 0, _, _, _, _, _, _ => none
  | k + 1, x0, x1, x5, x6, x7, x8 => if x8 < (wrap64 (32 * (x0.length : Int))) then ((wire_Rank.f k x0 x8).bind fun bt342 => (if 0 ≤ (wrap64 (Int.tdiv x8 32)) then (if (wrap64 (Int.tdiv x8 32)) < (x0.length : Int) then (if 0 ≤ (wrap64 (31 - (Int.tmod x8 32))) then (if bt342.2 = 0 then (if (Go.bits .and .u32 (shr .u32 (rd x0 (wrap64 (Int.tdiv x8 32))) (wrap64 (31 - (Int.tmod x8 32)))) 1) = 1 then (if bt342.1 = (wrap64 (x6 + 1)) then (if ((Go.bits .and .u32 (shr .u32 (rd x0 (wrap64 (Int.tdiv x8 32))) (wrap64 (31 - (Int.tmod x8 32)))) 1) = 1) then (turnpikelaw13_WireSelects.j2 k x0 x1 x5 x7 x8 bt342.1 ((Go.bits .and .u32 (shr .u32 (rd x0 (wrap64 (Int.tdiv x8 32))) (wrap64 (31 - (Int.tmod x8 32)))) 1) == 1) false) else (turnpikelaw13_WireSelects.j2 k x0 x1 x5 x7 x8 bt342.1 ((Go.bits .and .u32 (shr .u32 (rd x0 (wrap64 (Int.tdiv x8 32))) (wrap64 (31 - (Int.tmod x8 32)))) 1) == 1) (bt342.1 != x6))) else (turnpikelaw13_WireSelects.j2 k x0 x1 x5 x7 x8 bt342.1 ((Go.bits .and .u32 (shr .u32 (rd x0 (wrap64 (Int.tdiv x8 32))) (wrap64 (31 - (Int.tmod x8 32)))) 1) == 1) true)) else (if ((Go.bits .and .u32 (shr .u32 (rd x0 (wrap64 (Int.tdiv x8 32))) (wrap64 (31 - (Int.tmod x8 32)))) 1) = 1) then (turnpikelaw13_WireSelects.j2 k x0 x1 x5 x7 x8 bt342.1 ((Go.bits .and .u32 (shr .u32 (rd x0 (wrap64 (Int.tdiv x8 32))) (wrap64 (31 - (Int.tmod x8 32)))) 1) == 1) false) else (turnpikelaw13_WireSelects.j2 k x0 x1 x5 x7 x8 bt342.1 ((Go.bits .and .u32 (shr .u32 (rd x0 (wrap64 (Int.tdiv x8 32))) (wrap64 (31 - (Int.tmod x8 32)))) 1) == 1) (bt342.1 != x6)))) else (turnpikelaw13_WireSelects.j2 k x0 x1 x5 x7 x8 bt342.1 ((Go.bits .and .u32 (shr .u32 (rd x0 (wrap64 (Int.tdiv x8 32))) (wrap64 (31 - (Int.tmod x8 32)))) 1) == 1) true)) else (none)) else (none)) else (none))) else ((wire_Select.f k x0 x5).bind fun bt337 => ((turnpikelaw13_within.f x1 5).bind fun t339 => ((wire_Select.f k x0 (wrap64 ((-1) - t339))).bind fun bt340 => (if x6 = x5 then (if x7 = x5 then (if bt337.2 = 2 then (some (bt340.2 == 2)) else (some false)) else (some false)) else (some false)))))
def turnpikelaw13_WireSelects.j2 : Nat → List Int → Int → Int → Int → Int → Int → Bool → Bool → Option (Bool)
  | 0, _, _, _, _, _, _, _, _ => none
  | k + 1, x0, x1, x5, x7, x8, x9, x11, x73 => if x73 = true then (some false) else (if x11 = true then ((wire_Select.f k x0 x7).bind fun bt345 => (if bt345.2 = 0 then (if bt345.1 = x8 then (turnpikelaw13_WireSelects.l0 k x0 x1 x5 x9 (wrap64 (x7 + 1)) (wrap64 (x8 + 1))) else (some false)) else (some false))) else (turnpikelaw13_WireSelects.l0 k x0 x1 x5 x9 x7 (wrap64 (x8 + 1))))
end
def turnpikelaw13_WireSelects.f (k : Nat) (l0 : List Int) (a1 : Int) : Option (Bool) := (turnpikelaw13_known.f).bind fun t335 => (if t335 = true then (if (l0.length : Int) = 0 then (turnpikelaw13_WireSelects.j0 k l0 a1 true) else (turnpikelaw13_WireSelects.j0 k l0 a1 (decide ((l0.length : Int) > 300)))) else (some false))
theorem turnpikelaw13_WireSelects.mono_l : ∀ k, (∀ y0 y1 y2, LeO (turnpikelaw13_WireSelects.j0 k y0 y1 y2) (turnpikelaw13_WireSelects.j0 (k + 1) y0 y1 y2)) ∧ (∀ y0 y1 y2 y3 y4 y5, LeO (turnpikelaw13_WireSelects.l0 k y0 y1 y2 y3 y4 y5) (turnpikelaw13_WireSelects.l0 (k + 1) y0 y1 y2 y3 y4 y5)) ∧ (∀ y0 y1 y2 y3 y4 y5 y6 y7, LeO (turnpikelaw13_WireSelects.j2 k y0 y1 y2 y3 y4 y5 y6 y7) (turnpikelaw13_WireSelects.j2 (k + 1) y0 y1 y2 y3 y4 y5 y6 y7))
  | 0 => ⟨fun _ _ _ r h => by simp [turnpikelaw13_WireSelects.j0] at h, fun _ _ _ _ _ _ r h => by simp [turnpikelaw13_WireSelects.l0] at h, fun _ _ _ _ _ _ _ _ r h => by simp [turnpikelaw13_WireSelects.j2] at h⟩
  | k + 1 => by
    obtain ⟨ih0, ih1, ih2⟩ := turnpikelaw13_WireSelects.mono_l k
    refine ⟨?_, ?_, ?_⟩
    · intro y0 y1 y2
      unfold turnpikelaw13_WireSelects.j0
      repeat' first
      | (with_reducible exact ih0 _ _ _)
      | (with_reducible exact ih1 _ _ _ _ _ _)
      | (with_reducible exact ih2 _ _ _ _ _ _ _ _)
      | (with_reducible exact wire_Ones.mono _ _)
      | (with_reducible exact wire_Rank.mono _ _ _)
      | (with_reducible exact wire_Select.mono _ _ _)
      | (with_reducible exact LeO.refl _)
      | (with_reducible exact LeO.none _)
      | (with_reducible refine LeO.ite ?_ ?_)
      | (with_reducible refine LeO.bind ?_ (fun _ => ?_))
      | exact ih0 _ _ _
      | exact ih1 _ _ _ _ _ _
      | exact ih2 _ _ _ _ _ _ _ _
      | exact wire_Ones.mono _ _
      | exact wire_Rank.mono _ _ _
      | exact wire_Select.mono _ _ _
      | exact LeO.none _
      | refine LeO.ite ?_ ?_
      | refine LeO.bind ?_ (fun _ => ?_)
    · intro y0 y1 y2 y3 y4 y5
      unfold turnpikelaw13_WireSelects.l0
      repeat' first
      | (with_reducible exact ih0 _ _ _)
      | (with_reducible exact ih1 _ _ _ _ _ _)
      | (with_reducible exact ih2 _ _ _ _ _ _ _ _)
      | (with_reducible exact wire_Ones.mono _ _)
      | (with_reducible exact wire_Rank.mono _ _ _)
      | (with_reducible exact wire_Select.mono _ _ _)
      | (with_reducible exact LeO.refl _)
      | (with_reducible exact LeO.none _)
      | (with_reducible refine LeO.ite ?_ ?_)
      | (with_reducible refine LeO.bind ?_ (fun _ => ?_))
      | exact ih0 _ _ _
      | exact ih1 _ _ _ _ _ _
      | exact ih2 _ _ _ _ _ _ _ _
      | exact wire_Ones.mono _ _
      | exact wire_Rank.mono _ _ _
      | exact wire_Select.mono _ _ _
      | exact LeO.none _
      | refine LeO.ite ?_ ?_
      | refine LeO.bind ?_ (fun _ => ?_)
    · intro y0 y1 y2 y3 y4 y5 y6 y7
      unfold turnpikelaw13_WireSelects.j2
      repeat' first
      | (with_reducible exact ih0 _ _ _)
      | (with_reducible exact ih1 _ _ _ _ _ _)
      | (with_reducible exact ih2 _ _ _ _ _ _ _ _)
      | (with_reducible exact wire_Ones.mono _ _)
      | (with_reducible exact wire_Rank.mono _ _ _)
      | (with_reducible exact wire_Select.mono _ _ _)
      | (with_reducible exact LeO.refl _)
      | (with_reducible exact LeO.none _)
      | (with_reducible refine LeO.ite ?_ ?_)
      | (with_reducible refine LeO.bind ?_ (fun _ => ?_))
      | exact ih0 _ _ _
      | exact ih1 _ _ _ _ _ _
      | exact ih2 _ _ _ _ _ _ _ _
      | exact wire_Ones.mono _ _
      | exact wire_Rank.mono _ _ _
      | exact wire_Select.mono _ _ _
      | exact LeO.none _
      | refine LeO.ite ?_ ?_
      | refine LeO.bind ?_ (fun _ => ?_)
theorem turnpikelaw13_WireSelects.mono : ∀ a0 a1 k, LeO (turnpikelaw13_WireSelects.f k a0 a1) (turnpikelaw13_WireSelects.f (k + 1) a0 a1) := by
  intro a0 a1 k
  obtain ⟨ih0, ih1, ih2⟩ := turnpikelaw13_WireSelects.mono_l k
  unfold turnpikelaw13_WireSelects.f
  repeat' first
      | (with_reducible exact ih0 _ _ _)
      | (with_reducible exact ih1 _ _ _ _ _ _)
      | (with_reducible exact ih2 _ _ _ _ _ _ _ _)
      | (with_reducible exact wire_Ones.mono _ _)
      | (with_reducible exact wire_Rank.mono _ _ _)
      | (with_reducible exact wire_Select.mono _ _ _)
      | (with_reducible exact LeO.refl _)
      | (with_reducible exact LeO.none _)
      | (with_reducible refine LeO.ite ?_ ?_)
      | (with_reducible refine LeO.bind ?_ (fun _ => ?_))
      | exact ih0 _ _ _
      | exact ih1 _ _ _ _ _ _
      | exact ih2 _ _ _ _ _ _ _ _
      | exact wire_Ones.mono _ _
      | exact wire_Rank.mono _ _ _
      | exact wire_Select.mono _ _ _
      | exact LeO.none _
      | refine LeO.ite ?_ ?_
      | refine LeO.bind ?_ (fun _ => ?_)
set_option maxHeartbeats 8000000 in
set_option maxRecDepth 100000 in
theorem turnpikelaw13_WireSelects.calls (k : Nat) (A0 : Option Addr) (c0 : Nat) (l0 : List Int) (a1 : Int) (r : Bool) (w : World) (hr0 : Kd.C (Kd.int .u32) w A0 l0.length l0) (hc0 : l0.length ≤ c0) (h : turnpikelaw13_WireSelects.f k l0 a1 = some r) :
    Calls Try.prog 10 #[.slice A0 l0.length c0, .int .i64 a1] w fun e w' => e = .returned (.bool r) ∧ Below w.heap.size w w' := by
  have HR0 := Aside0.mk hr0
  have HC0 := Aside0.mk hc0
  clear hr0 hc0
  have HB := Aside0.mk (Below.refl w.heap.size w)
  have H : ((turnpikelaw13_known.f).bind fun t335 => (if t335 = true then (if (l0.length : Int) = 0 then (turnpikelaw13_WireSelects.j0 k l0 a1 true) else (turnpikelaw13_WireSelects.j0 k l0 a1 (decide ((l0.length : Int) > 300)))) else (some false))) = some r := h
  clear h
  replace H := Option.bind_eq_some_iff.mp H
  obtain ⟨t335, A30, H⟩ := H
  replace H : (if t335 = true then (if (l0.length : Int) = 0 then (turnpikelaw13_WireSelects.j0 k l0 a1 true) else (turnpikelaw13_WireSelects.j0 k l0 a1 (decide ((l0.length : Int) > 300)))) else (some false)) = some r := H
  have A3 := Aside0.mk A30
  clear A30
  by_cases c4 : t335 = true
  · subst c4
    have H1 : (if (l0.length : Int) = 0 then (turnpikelaw13_WireSelects.j0 k l0 a1 true) else (turnpikelaw13_WireSelects.j0 k l0 a1 (decide ((l0.length : Int) > 300)))) = some r := by rw [if_pos rfl] at H; exact H
    clear H
    have H := H1
    clear H1
    have HC5 := Aside0.mk H
    clear H
    go_enter Try.func10, Try.ntmps10
    go_upto_region 3 with (first | ((with_reducible refine gate_callee (f := 14) rfl ?_); refine goesL_ (some 18) rfl rfl Try.func14 (by kernel_rfl) rfl #[] rfl (by (try simp only [List.map_toArray, List.map_cons, List.map_nil]); first | done | rfl | (simp only [List.length_drop, List.length_take]; rfl)) ?_; (with_reducible refine (turnpikelaw13_known.calls  true _ A3.out).mono ?_); rintro e w6 ⟨rfl, hb⟩; refine ⟨_, rfl, ?_⟩; have n0_ := Aside0.mk (below_step (by repeat (first | (with_reducible first | exact HB.out | apply below_alloc | apply pw_below_drewN | apply below_drew1) | exact HB.out)) hb); clear HB; have HB := n0_; clear n0_; (try clear hb); (try clear hb2); (try clear hk); (try clear hi)))
    (try simp only [Act.put, List.setIfInBounds_toArray, List.set_cons_zero, List.set_cons_succ])
    go_cut [27] (fun v27 wc => ∃ (kq : Nat) (x27_4 : Bool), v27 = .bool x27_4 ∧ Aside0 (turnpikelaw13_WireSelects.j0 kq l0 a1 x27_4 = some r) ∧ Aside0 (kq ≤ k) ∧ Aside0 (Below w.heap.size w wc))
    case first =>
      have H := HC5.out
      clear HC5
      by_cases c7 : (l0.length : Int) = 0
      · rw [if_pos c7] at H
        have c7b0 : ((l0.length : Int) == 0) = true := beq_iff_eq.mpr c7
        have c7b1 : ((l0.length : Int) != 0) = false := bne_eq_false_iff_eq.mpr c7
        clear c7
        (first | rw [c7b0] | (simp only [i64_w, i32_w]; rw [c7b0]) | skip)
        have H' := Aside0.mk H
        clear H
        go_wp2
        go_meet
        case rel => exact ⟨_, (true), (by first | rfl | (simp; done) | (simp [*]; done)), H', ⟨by first | omega | exact Nat.le_refl _⟩, ⟨by repeat (first | (with_reducible first | exact HB.out | apply below_alloc | apply pw_below_drewN | apply below_drew1) | exact HB.out)⟩⟩
      · rw [if_neg c7] at H
        have c7b0 : ((l0.length : Int) == 0) = false := beq_eq_false_iff_ne.mpr c7
        have c7b1 : ((l0.length : Int) != 0) = true := bne_iff_ne.mpr c7
        have c7b2 : ¬ (l0 = []) := fun h_ => c7 (by rw [h_]; rfl)
        (first | rw [c7b0] | (simp only [i64_w, i32_w]; rw [c7b0]) | skip)
        have H' := Aside0.mk H
        clear H
        go_wp2
        go_meet
        case rel => exact ⟨_, (decide ((l0.length : Int) > 300)), (by first | rfl | (simp; done) | (simp [*]; done)), H', ⟨by first | omega | exact Nat.le_refl _⟩, ⟨by repeat (first | (with_reducible first | exact HB.out | apply below_alloc | apply pw_below_drewN | apply below_drew1) | exact HB.out)⟩⟩
    case rest =>
      clear HC5
      try clear c1
      try clear p2
      try clear c4
      try clear c7
      try clear c7b0
      try clear c7b1
      try clear c7b2
      obtain ⟨kq, x27_4, rfl, HA, HJ4, HB⟩ := hcut
      cases kq with
      | zero => exact absurd HA.out (by simp [turnpikelaw13_WireSelects.j0])
      | succ kj4 =>
        have H := HA.out
        clear HA
        simp only [turnpikelaw13_WireSelects.j0] at H
        by_cases c8 : x27_4 = true
        · subst c8
          have H1 : (some true) = some r := by rw [if_pos rfl] at H; exact H
          clear H
          have H := H1
          clear H1
          obtain rfl := Option.some.inj H
          go_wp2
          go_ret
          exact ⟨by first | rfl | (simp [errW_none, errW_some] <;> rfl) | (simp [*, errW_none, errW_some] <;> rfl), by repeat (first | (with_reducible first | exact HB.out | apply below_alloc | apply pw_below_drewN | apply below_drew1) | exact HB.out)⟩
        · replace c8 := Bool.eq_false_iff.mpr c8
          subst c8
          have H1 : ((wire_Ones.f kj4 l0).bind fun t336 => (turnpikelaw13_WireSelects.l0 kj4 l0 a1 t336 0 0 0)) = some r := by rw [if_neg (show ¬ (false = true) by decide)] at H; exact H
          clear H
          have H := H1
          clear H1
          replace H := Option.bind_eq_some_iff.mp H
          obtain ⟨t336, A90, H⟩ := H
          replace H : (turnpikelaw13_WireSelects.l0 kj4 l0 a1 t336 0 0 0) = some r := H
          have A9 := Aside0.mk A90
          clear A90
          have H' := Aside0.mk H
          clear H
          go_wp2_with (first | ((with_reducible refine gate_callee (f := 33) rfl ?_); refine goesL_ (some 29) rfl rfl Try.func33 (by kernel_rfl) rfl #[.slice A0 l0.length c0] rfl (by (try simp only [List.map_toArray, List.map_cons, List.map_nil]); first | done | rfl | (simp only [List.length_drop, List.length_take]; rfl)) ?_; (with_reducible refine (wire_Ones.calls kj4 _ _ l0 t336 _ ?side1 ?side2 A9.out).mono ?_); (case side1 => repeat (first | exact (Kd.C_below HR0.out HB.out) | (with_reducible refine Kd.C_alloc ?_ _) | (with_reducible refine Kd.C_drewN ?_ _) | (with_reducible refine Kd.C_drew ?_))); (case side2 => exact HC0.out); rintro e w' ⟨rfl, ⟨nd, rfl⟩⟩; refine ⟨_, rfl, ?_⟩))
          go_loopg [6, 7, 8] kj4 (fun kq v6 v7 v8 w' => ∃ (x6_2 : Int) (x7_2 : Int) (x8_2 : Int), v6 = .int .i64 x6_2 ∧ v7 = .int .i64 x7_2 ∧ v8 = .int .i64 x8_2 ∧ Aside0 (turnpikelaw13_WireSelects.l0 kq l0 a1 t336 x6_2 x7_2 x8_2 = some r) ∧ Aside0 (kq ≤ kj4) ∧ Aside0 (Below w.heap.size w w'))
          case atStart => exact ⟨(0), (0), (0), (by first | rfl | (simp; done) | (simp [*]; done)), (by first | rfl | (simp; done) | (simp [*]; done)), (by first | rfl | (simp; done) | (simp [*]; done)), H', ⟨Nat.le_refl _⟩, ⟨by repeat (first | (with_reducible first | exact HB.out | apply below_alloc | apply pw_below_drewN | apply below_drew1) | exact HB.out)⟩⟩
          case round =>
            clear H'
            try clear c1
            try clear p2
            try clear c3
            try clear c4
            try clear c7
            try clear c7b0
            try clear c7b1
            try clear c7b2
            try clear c8
            try clear p2
            obtain ⟨x6_2, x7_2, x8_2, rfl, rfl, rfl, HA, HK2, HB⟩ := hrel
            cases gk with
            | zero => exact absurd HA.out (by simp [turnpikelaw13_WireSelects.l0])
            | succ k2 =>
              have H := HA.out
              clear HA
              simp only [turnpikelaw13_WireSelects.l0] at H
              by_cases c10 : x8_2 < (wrap64 (32 * (l0.length : Int)))
              · rw [if_pos c10] at H
                have c10b0 : decide (x8_2 < (wrap64 (32 * (l0.length : Int)))) = true := decide_eq_true c10
                clear c10
                replace H := Option.bind_eq_some_iff.mp H
                obtain ⟨⟨t342, t343⟩, A110, H⟩ := H
                replace H : (if 0 ≤ (wrap64 (Int.tdiv x8_2 32)) then (if (wrap64 (Int.tdiv x8_2 32)) < (l0.length : Int) then (if 0 ≤ (wrap64 (31 - (Int.tmod x8_2 32))) then (if t343 = 0 then (if (Go.bits .and .u32 (shr .u32 (rd l0 (wrap64 (Int.tdiv x8_2 32))) (wrap64 (31 - (Int.tmod x8_2 32)))) 1) = 1 then (if t342 = (wrap64 (x6_2 + 1)) then (if ((Go.bits .and .u32 (shr .u32 (rd l0 (wrap64 (Int.tdiv x8_2 32))) (wrap64 (31 - (Int.tmod x8_2 32)))) 1) = 1) then (turnpikelaw13_WireSelects.j2 k2 l0 a1 t336 x7_2 x8_2 t342 ((Go.bits .and .u32 (shr .u32 (rd l0 (wrap64 (Int.tdiv x8_2 32))) (wrap64 (31 - (Int.tmod x8_2 32)))) 1) == 1) false) else (turnpikelaw13_WireSelects.j2 k2 l0 a1 t336 x7_2 x8_2 t342 ((Go.bits .and .u32 (shr .u32 (rd l0 (wrap64 (Int.tdiv x8_2 32))) (wrap64 (31 - (Int.tmod x8_2 32)))) 1) == 1) (t342 != x6_2))) else (turnpikelaw13_WireSelects.j2 k2 l0 a1 t336 x7_2 x8_2 t342 ((Go.bits .and .u32 (shr .u32 (rd l0 (wrap64 (Int.tdiv x8_2 32))) (wrap64 (31 - (Int.tmod x8_2 32)))) 1) == 1) true)) else (if ((Go.bits .and .u32 (shr .u32 (rd l0 (wrap64 (Int.tdiv x8_2 32))) (wrap64 (31 - (Int.tmod x8_2 32)))) 1) = 1) then (turnpikelaw13_WireSelects.j2 k2 l0 a1 t336 x7_2 x8_2 t342 ((Go.bits .and .u32 (shr .u32 (rd l0 (wrap64 (Int.tdiv x8_2 32))) (wrap64 (31 - (Int.tmod x8_2 32)))) 1) == 1) false) else (turnpikelaw13_WireSelects.j2 k2 l0 a1 t336 x7_2 x8_2 t342 ((Go.bits .and .u32 (shr .u32 (rd l0 (wrap64 (Int.tdiv x8_2 32))) (wrap64 (31 - (Int.tmod x8_2 32)))) 1) == 1) (t342 != x6_2)))) else (turnpikelaw13_WireSelects.j2 k2 l0 a1 t336 x7_2 x8_2 t342 ((Go.bits .and .u32 (shr .u32 (rd l0 (wrap64 (Int.tdiv x8_2 32))) (wrap64 (31 - (Int.tmod x8_2 32)))) 1) == 1) true)) else (none)) else (none)) else (none)) = some r := H
                have A11 := Aside0.mk A110
                clear A110
                obtain ⟨ji12, hji12⟩ : ∃ j_ : Int, (wrap64 (Int.tdiv x8_2 32)) = j_ := ⟨_, rfl⟩
                replace H : (if 0 ≤ (ji12) then (if (ji12) < (l0.length : Int) then (if 0 ≤ (wrap64 (31 - (Int.tmod x8_2 32))) then (if t343 = 0 then (if (Go.bits .and .u32 (shr .u32 (rd l0 (ji12)) (wrap64 (31 - (Int.tmod x8_2 32)))) 1) = 1 then (if t342 = (wrap64 (x6_2 + 1)) then (if ((Go.bits .and .u32 (shr .u32 (rd l0 (ji12)) (wrap64 (31 - (Int.tmod x8_2 32)))) 1) = 1) then (turnpikelaw13_WireSelects.j2 k2 l0 a1 t336 x7_2 x8_2 t342 ((Go.bits .and .u32 (shr .u32 (rd l0 (ji12)) (wrap64 (31 - (Int.tmod x8_2 32)))) 1) == 1) false) else (turnpikelaw13_WireSelects.j2 k2 l0 a1 t336 x7_2 x8_2 t342 ((Go.bits .and .u32 (shr .u32 (rd l0 (ji12)) (wrap64 (31 - (Int.tmod x8_2 32)))) 1) == 1) (t342 != x6_2))) else (turnpikelaw13_WireSelects.j2 k2 l0 a1 t336 x7_2 x8_2 t342 ((Go.bits .and .u32 (shr .u32 (rd l0 (ji12)) (wrap64 (31 - (Int.tmod x8_2 32)))) 1) == 1) true)) else (if ((Go.bits .and .u32 (shr .u32 (rd l0 (ji12)) (wrap64 (31 - (Int.tmod x8_2 32)))) 1) = 1) then (turnpikelaw13_WireSelects.j2 k2 l0 a1 t336 x7_2 x8_2 t342 ((Go.bits .and .u32 (shr .u32 (rd l0 (ji12)) (wrap64 (31 - (Int.tmod x8_2 32)))) 1) == 1) false) else (turnpikelaw13_WireSelects.j2 k2 l0 a1 t336 x7_2 x8_2 t342 ((Go.bits .and .u32 (shr .u32 (rd l0 (ji12)) (wrap64 (31 - (Int.tmod x8_2 32)))) 1) == 1) (t342 != x6_2)))) else (turnpikelaw13_WireSelects.j2 k2 l0 a1 t336 x7_2 x8_2 t342 ((Go.bits .and .u32 (shr .u32 (rd l0 (ji12)) (wrap64 (31 - (Int.tmod x8_2 32)))) 1) == 1) true)) else (none)) else (none)) else (none)) = some r := by first | (rw [hji12] at H; exact H) | (simp only [hji12] at H ⊢; exact H)
                (try rw [hji12] at A11)
                have hji12w : (IntKind.i64.wrap (Int.tdiv x8_2 32)) = ji12 := (i64_w _).trans hji12
                by_cases c13 : 0 ≤ (ji12)
                · rw [if_pos c13] at H
                  have c13b0 : decide (0 ≤ (ji12)) = true := decide_eq_true c13
                  clear c13
                  by_cases c14 : (ji12) < (l0.length : Int)
                  · rw [if_pos c14] at H
                    have c14b0 : decide ((ji12) < (l0.length : Int)) = true := decide_eq_true c14
                    clear c14
                    obtain ⟨ji15, hji15⟩ : ∃ j_ : Int, (wrap64 (31 - (Int.tmod x8_2 32))) = j_ := ⟨_, rfl⟩
                    replace H : (if 0 ≤ (ji15) then (if t343 = 0 then (if (Go.bits .and .u32 (shr .u32 (rd l0 (ji12)) (ji15)) 1) = 1 then (if t342 = (wrap64 (x6_2 + 1)) then (if ((Go.bits .and .u32 (shr .u32 (rd l0 (ji12)) (ji15)) 1) = 1) then (turnpikelaw13_WireSelects.j2 k2 l0 a1 t336 x7_2 x8_2 t342 ((Go.bits .and .u32 (shr .u32 (rd l0 (ji12)) (ji15)) 1) == 1) false) else (turnpikelaw13_WireSelects.j2 k2 l0 a1 t336 x7_2 x8_2 t342 ((Go.bits .and .u32 (shr .u32 (rd l0 (ji12)) (ji15)) 1) == 1) (t342 != x6_2))) else (turnpikelaw13_WireSelects.j2 k2 l0 a1 t336 x7_2 x8_2 t342 ((Go.bits .and .u32 (shr .u32 (rd l0 (ji12)) (ji15)) 1) == 1) true)) else (if ((Go.bits .and .u32 (shr .u32 (rd l0 (ji12)) (ji15)) 1) = 1) then (turnpikelaw13_WireSelects.j2 k2 l0 a1 t336 x7_2 x8_2 t342 ((Go.bits .and .u32 (shr .u32 (rd l0 (ji12)) (ji15)) 1) == 1) false) else (turnpikelaw13_WireSelects.j2 k2 l0 a1 t336 x7_2 x8_2 t342 ((Go.bits .and .u32 (shr .u32 (rd l0 (ji12)) (ji15)) 1) == 1) (t342 != x6_2)))) else (turnpikelaw13_WireSelects.j2 k2 l0 a1 t336 x7_2 x8_2 t342 ((Go.bits .and .u32 (shr .u32 (rd l0 (ji12)) (ji15)) 1) == 1) true)) else (none)) = some r := by first | (rw [hji15] at H; exact H) | (simp only [hji15] at H ⊢; exact H)
                    (try rw [hji15] at A11)
                    have hji15w : (IntKind.i64.wrap (31 - (Int.tmod x8_2 32))) = ji15 := (i64_w _).trans hji15
                    by_cases c16 : 0 ≤ (ji15)
                    · rw [if_pos c16] at H
                      have c16b0 := eq_true c16
                      have c16b1 : decide (0 ≤ (ji15)) = true := decide_eq_true c16
                      clear c16
                      obtain ⟨ji17, hji17⟩ : ∃ j_ : Int, (shr .u32 (rd l0 (ji12)) (ji15)) = j_ := ⟨_, rfl⟩
                      replace H : (if t343 = 0 then (if (Go.bits .and .u32 (ji17) 1) = 1 then (if t342 = (wrap64 (x6_2 + 1)) then (if ((Go.bits .and .u32 (ji17) 1) = 1) then (turnpikelaw13_WireSelects.j2 k2 l0 a1 t336 x7_2 x8_2 t342 ((Go.bits .and .u32 (ji17) 1) == 1) false) else (turnpikelaw13_WireSelects.j2 k2 l0 a1 t336 x7_2 x8_2 t342 ((Go.bits .and .u32 (ji17) 1) == 1) (t342 != x6_2))) else (turnpikelaw13_WireSelects.j2 k2 l0 a1 t336 x7_2 x8_2 t342 ((Go.bits .and .u32 (ji17) 1) == 1) true)) else (if ((Go.bits .and .u32 (ji17) 1) = 1) then (turnpikelaw13_WireSelects.j2 k2 l0 a1 t336 x7_2 x8_2 t342 ((Go.bits .and .u32 (ji17) 1) == 1) false) else (turnpikelaw13_WireSelects.j2 k2 l0 a1 t336 x7_2 x8_2 t342 ((Go.bits .and .u32 (ji17) 1) == 1) (t342 != x6_2)))) else (turnpikelaw13_WireSelects.j2 k2 l0 a1 t336 x7_2 x8_2 t342 ((Go.bits .and .u32 (ji17) 1) == 1) true)) = some r := by first | (rw [hji17] at H; exact H) | (simp only [hji17] at H ⊢; exact H)
                      (try rw [hji17] at A11)
                      have hji17_ : ((rd l0 (ji12)) / 2 ^ min (ji15).toNat 32) = ji17 := hji17
                      have hji17z : (ji15) ≤ 32 → ((rd l0 (ji12)) / 2 ^ (ji15).toNat) = ji17 := shr_small hji17
                      have HC18 := Aside0.mk H
                      clear H
                      go_upto_region 13 with (first | ((with_reducible refine gate_callee (f := 31) rfl ?_); refine goesL_ (some 40) rfl rfl Try.func31 (by kernel_rfl) rfl #[.slice A0 l0.length c0, .int .i64 x8_2] rfl (by (try simp only [List.map_toArray, List.map_cons, List.map_nil]); first | done | rfl | (simp only [List.length_drop, List.length_take]; rfl)) ?_; (with_reducible refine (wire_Rank.calls k2 _ _ l0 x8_2 t342 t343 _ ?side1 ?side2 A11.out).mono ?_); (case side1 => repeat (first | exact (Kd.C_below HR0.out HB.out) | (with_reducible refine Kd.C_alloc ?_ _) | (with_reducible refine Kd.C_drewN ?_ _) | (with_reducible refine Kd.C_drew ?_))); (case side2 => exact HC0.out); rintro e w' ⟨rfl, ⟨nd, rfl⟩⟩; refine ⟨_, rfl, ?_⟩; have p344 : 0 ≤ ((ji12) : Int) := of_decide_eq_true (by first | (with_reducible assumption) | assumption); have q344 : (ji12) < (l0.length : Int) := of_decide_eq_true (by first | (with_reducible assumption) | assumption); obtain ⟨ad344, e344, hx344_0⟩ := Kd.at_int HR0.out (ji12) p344 q344; cases e344; replace hx344_0 := (HB.out.cell (World.block_lt_of_cell? w _ hx344_0)).trans hx344_0; replace p344 := eq_true p344; replace q344 := eq_true q344))
                      (try simp only [Act.put, List.setIfInBounds_toArray, List.set_cons_zero, List.set_cons_succ])
                      go_cut [73] (fun v73 wc => ∃ (kq : Nat) (x73_17 : Bool), v73 = .bool x73_17 ∧ Aside0 (turnpikelaw13_WireSelects.j2 kq l0 a1 t336 x7_2 x8_2 t342 ((Go.bits .and .u32 (ji17) 1) == 1) x73_17 = some r) ∧ Aside0 (kq ≤ k2) ∧ Aside0 (Below w.heap.size w wc))
                      case first =>
                        have H := HC18.out
                        clear HC18
                        by_cases c19 : t343 = 0
                        · rw [if_pos c19] at H
                          have c19b0 : (t343 == 0) = true := beq_iff_eq.mpr c19
                          have c19b1 : (t343 != 0) = false := bne_eq_false_iff_eq.mpr c19
                          clear c19
                          (first | rw [c19b0] | (simp only [i64_w, i32_w]; rw [c19b0]) | skip)
                          by_cases c20 : (Go.bits .and .u32 (ji17) 1) = 1
                          · rw [if_pos c20] at H
                            have c20b0 : ((Go.bits .and .u32 (ji17) 1) == 1) = true := beq_iff_eq.mpr c20
                            have c20b1 : ((Go.bits .and .u32 (ji17) 1) != 1) = false := bne_eq_false_iff_eq.mpr c20
                            clear c20
                            by_cases c21 : t342 = (wrap64 (x6_2 + 1))
                            · rw [if_pos c21] at H
                              have c21b0 : (t342 == (wrap64 (x6_2 + 1))) = true := beq_iff_eq.mpr c21
                              have c21b1 : (t342 != (wrap64 (x6_2 + 1))) = false := bne_eq_false_iff_eq.mpr c21
                              clear c21
                              by_cases c22 : ((Go.bits .and .u32 (ji17) 1) = 1)
                              · rw [if_pos c22] at H
                                have c22b0 : ((Go.bits .and .u32 (ji17) 1) == 1) = true := beq_iff_eq.mpr c22
                                have c22b1 : ((Go.bits .and .u32 (ji17) 1) != 1) = false := bne_eq_false_iff_eq.mpr c22
                                clear c22
                                (try rw [c20b0] at H)
                                have H' := Aside0.mk H
                                clear H
                                go_wp2
                                refine Met.intro ?_
                                go_step
                                rw [c20b0]
                                (repeat apply Exists.intro)
                                refine ⟨?rel, rfl⟩
                                case rel => exact ⟨_, (false), (by first | rfl | (simp; done) | (simp [*]; done)), H', ⟨by have := HJ4.out; have := HK2.out; first | omega | exact Nat.le_refl _⟩, ⟨by repeat (first | (with_reducible first | exact HB.out | apply below_alloc | apply pw_below_drewN | apply below_drew1) | exact HB.out)⟩⟩
                              · rw [if_neg c22] at H
                                have c22b0 : ((Go.bits .and .u32 (ji17) 1) == 1) = false := beq_eq_false_iff_ne.mpr c22
                                have c22b1 : ((Go.bits .and .u32 (ji17) 1) != 1) = true := bne_iff_ne.mpr c22
                                exact Bool.noConfusion (c20b0.symm.trans c22b0)
                            · rw [if_neg c21] at H
                              have c21b0 : (t342 == (wrap64 (x6_2 + 1))) = false := beq_eq_false_iff_ne.mpr c21
                              have c21b1 : (t342 != (wrap64 (x6_2 + 1))) = true := bne_iff_ne.mpr c21
                              (try rw [c20b0] at H)
                              have H' := Aside0.mk H
                              clear H
                              go_wp2
                              refine Met.intro ?_
                              go_step
                              rw [c20b0]
                              (repeat apply Exists.intro)
                              refine ⟨?rel, rfl⟩
                              case rel => exact ⟨_, (true), (by first | rfl | (simp; done) | (simp [*]; done)), H', ⟨by have := HJ4.out; have := HK2.out; first | omega | exact Nat.le_refl _⟩, ⟨by repeat (first | (with_reducible first | exact HB.out | apply below_alloc | apply pw_below_drewN | apply below_drew1) | exact HB.out)⟩⟩
                          · rw [if_neg c20] at H
                            have c20b0 : ((Go.bits .and .u32 (ji17) 1) == 1) = false := beq_eq_false_iff_ne.mpr c20
                            have c20b1 : ((Go.bits .and .u32 (ji17) 1) != 1) = true := bne_iff_ne.mpr c20
                            by_cases c23 : ((Go.bits .and .u32 (ji17) 1) = 1)
                            · rw [if_pos c23] at H
                              have c23b0 : ((Go.bits .and .u32 (ji17) 1) == 1) = true := beq_iff_eq.mpr c23
                              have c23b1 : ((Go.bits .and .u32 (ji17) 1) != 1) = false := bne_eq_false_iff_eq.mpr c23
                              exact Bool.noConfusion (c20b0.symm.trans c23b0)
                            · rw [if_neg c23] at H
                              have c23b0 : ((Go.bits .and .u32 (ji17) 1) == 1) = false := beq_eq_false_iff_ne.mpr c23
                              have c23b1 : ((Go.bits .and .u32 (ji17) 1) != 1) = true := bne_iff_ne.mpr c23
                              (try rw [c20b0] at H)
                              have H' := Aside0.mk H
                              clear H
                              go_wp2
                              refine Met.intro ?_
                              go_step
                              rw [c20b0]
                              (repeat apply Exists.intro)
                              refine ⟨?rel, rfl⟩
                              case rel => exact ⟨_, ((t342 != x6_2)), (by first | rfl | (simp; done) | (simp [*]; done)), H', ⟨by have := HJ4.out; have := HK2.out; first | omega | exact Nat.le_refl _⟩, ⟨by repeat (first | (with_reducible first | exact HB.out | apply below_alloc | apply pw_below_drewN | apply below_drew1) | exact HB.out)⟩⟩
                        · rw [if_neg c19] at H
                          have c19b0 : (t343 == 0) = false := beq_eq_false_iff_ne.mpr c19
                          have c19b1 : (t343 != 0) = true := bne_iff_ne.mpr c19
                          (first | rw [c19b0] | (simp only [i64_w, i32_w]; rw [c19b0]) | skip)
                          have H' := Aside0.mk H
                          clear H
                          go_wp2
                          go_meet
                          case rel => exact ⟨_, (true), (by first | rfl | (simp; done) | (simp [*]; done)), H', ⟨by have := HJ4.out; have := HK2.out; first | omega | exact Nat.le_refl _⟩, ⟨by repeat (first | (with_reducible first | exact HB.out | apply below_alloc | apply pw_below_drewN | apply below_drew1) | exact HB.out)⟩⟩
                      case rest =>
                        clear HC18
                        try clear c1
                        try clear c2
                        try clear p2
                        try clear c3
                        try clear p3
                        try clear q3
                        try clear hx3
                        try clear c4
                        try clear p6
                        try clear c7
                        try clear c7b0
                        try clear c7b1
                        try clear c7b2
                        try clear c8
                        try clear c10
                        try clear c10b0
                        try clear c13
                        try clear c13b0
                        try clear c14
                        try clear c14b0
                        try clear c16
                        try clear c16b0
                        try clear c16b1
                        try clear c19
                        try clear c19b0
                        try clear c19b1
                        try clear c20
                        try clear c20b0
                        try clear c20b1
                        try clear c21
                        try clear c21b0
                        try clear c21b1
                        try clear c22
                        try clear c22b0
                        try clear c22b1
                        try clear c23
                        try clear c23b0
                        try clear c23b1
                        try clear hx344_0
                        try clear p2
                        try clear p344
                        try clear q344
                        obtain ⟨kq, x73_17, rfl, HA, HJ17, HB⟩ := hcut
                        cases kq with
                        | zero => exact absurd HA.out (by simp [turnpikelaw13_WireSelects.j2])
                        | succ kj17 =>
                          have H := HA.out
                          clear HA
                          simp only [turnpikelaw13_WireSelects.j2] at H
                          by_cases c24 : x73_17 = true
                          · subst c24
                            have H1 : (some false) = some r := by rw [if_pos rfl] at H; exact H
                            clear H
                            have H := H1
                            clear H1
                            obtain rfl := Option.some.inj H
                            go_wp2
                            go_ret
                            exact ⟨by first | rfl | (simp [errW_none, errW_some] <;> rfl) | (simp only [← hji12, ← hji15, ← hji17]; first | rfl | (simp [errW_none, errW_some] <;> rfl)) | (simp [*, errW_none, errW_some] <;> rfl), by repeat (first | (with_reducible first | exact HB.out | apply below_alloc | apply pw_below_drewN | apply below_drew1) | exact HB.out)⟩
                          · replace c24 := Bool.eq_false_iff.mpr c24
                            subst c24
                            have H1 : (if ((Go.bits .and .u32 (ji17) 1) == 1) = true then ((wire_Select.f kj17 l0 x7_2).bind fun bt345 => (if bt345.2 = 0 then (if bt345.1 = x8_2 then (turnpikelaw13_WireSelects.l0 kj17 l0 a1 t336 t342 (wrap64 (x7_2 + 1)) (wrap64 (x8_2 + 1))) else (some false)) else (some false))) else (turnpikelaw13_WireSelects.l0 kj17 l0 a1 t336 t342 x7_2 (wrap64 (x8_2 + 1)))) = some r := by rw [if_neg (show ¬ (false = true) by decide)] at H; exact H
                            clear H
                            have H := H1
                            clear H1
                            by_cases c25 : ((Go.bits .and .u32 (ji17) 1) == 1) = true
                            · rw [if_pos c25] at H
                              have c25b0 : ((Go.bits .and .u32 (ji17) 1) == 1) = true := c25
                              (try (have c25b1 : decide ((Go.bits .and .u32 (ji17) 1) = 1) = true := by simpa using c25))
                              (try (have c25b2 : ((Go.bits .and .u32 (ji17) 1) == 1) = true := by simpa using c25))
                              clear c25
                              replace H := Option.bind_eq_some_iff.mp H
                              obtain ⟨⟨t345, t346⟩, A260, H⟩ := H
                              replace H : (if t346 = 0 then (if t345 = x8_2 then (turnpikelaw13_WireSelects.l0 kj17 l0 a1 t336 t342 (wrap64 (x7_2 + 1)) (wrap64 (x8_2 + 1))) else (some false)) else (some false)) = some r := H
                              have A26 := Aside0.mk A260
                              clear A260
                              by_cases c27 : t346 = 0
                              · rw [if_pos c27] at H
                                have c27b0 : (t346 == 0) = true := beq_iff_eq.mpr c27
                                have c27b1 : (t346 != 0) = false := bne_eq_false_iff_eq.mpr c27
                                clear c27
                                by_cases c28 : t345 = x8_2
                                · rw [if_pos c28] at H
                                  have c28b0 : (t345 == x8_2) = true := beq_iff_eq.mpr c28
                                  have c28b1 : (t345 != x8_2) = false := bne_eq_false_iff_eq.mpr c28
                                  clear c28
                                  have H' := Aside0.mk H
                                  clear H
                                  go_wp2_with (first | ((with_reducible refine gate_callee (f := 32) rfl ?_); refine goesL_ (some 79) rfl rfl Try.func32 (by kernel_rfl) rfl #[.slice (some ad344) l0.length c0, .int .i64 x7_2] rfl (by (try simp only [List.map_toArray, List.map_cons, List.map_nil]); first | done | rfl | (simp only [List.length_drop, List.length_take]; rfl)) ?_; (with_reducible refine (wire_Select.calls kj17 _ _ l0 x7_2 t345 t346 _ ?side1 ?side2 A26.out).mono ?_); (case side1 => repeat (first | exact (Kd.C_below HR0.out HB.out) | (with_reducible refine Kd.C_alloc ?_ _) | (with_reducible refine Kd.C_drewN ?_ _) | (with_reducible refine Kd.C_drew ?_))); (case side2 => exact HC0.out); rintro e w' ⟨rfl, ⟨nd, rfl⟩⟩; refine ⟨_, rfl, ?_⟩))
                                  go_roundg kj17
                                  case measure => have := HJ4.out; have := HK2.out; have := HJ17.out; omega
                                  case rel => exact ⟨(t342), (wrap64 (x7_2 + 1)), (wrap64 (x8_2 + 1)), (by first | rfl | (simp; done) | (simp [*]; done)), (by first | rfl | (simp; done) | (simp [*]; done)), (by first | rfl | (simp; done) | (simp [*]; done)), H', ⟨by have := HJ4.out; have := HK2.out; have := HJ17.out; omega⟩, ⟨by repeat (first | (with_reducible first | exact HB.out | apply below_alloc | apply pw_below_drewN | apply below_drew1) | exact HB.out)⟩⟩
                                · rw [if_neg c28] at H
                                  have c28b0 : (t345 == x8_2) = false := beq_eq_false_iff_ne.mpr c28
                                  have c28b1 : (t345 != x8_2) = true := bne_iff_ne.mpr c28
                                  obtain rfl := Option.some.inj H
                                  go_wp2_with (first | ((with_reducible refine gate_callee (f := 32) rfl ?_); refine goesL_ (some 79) rfl rfl Try.func32 (by kernel_rfl) rfl #[.slice (some ad344) l0.length c0, .int .i64 x7_2] rfl (by (try simp only [List.map_toArray, List.map_cons, List.map_nil]); first | done | rfl | (simp only [List.length_drop, List.length_take]; rfl)) ?_; (with_reducible refine (wire_Select.calls kj17 _ _ l0 x7_2 t345 t346 _ ?side1 ?side2 A26.out).mono ?_); (case side1 => repeat (first | exact (Kd.C_below HR0.out HB.out) | (with_reducible refine Kd.C_alloc ?_ _) | (with_reducible refine Kd.C_drewN ?_ _) | (with_reducible refine Kd.C_drew ?_))); (case side2 => exact HC0.out); rintro e w' ⟨rfl, ⟨nd, rfl⟩⟩; refine ⟨_, rfl, ?_⟩))
                                  go_ret
                                  exact ⟨by first | rfl | (simp [errW_none, errW_some] <;> rfl) | (simp only [← hji12, ← hji15, ← hji17]; first | rfl | (simp [errW_none, errW_some] <;> rfl)) | (simp [*, errW_none, errW_some] <;> rfl), by repeat (first | (with_reducible first | exact HB.out | apply below_alloc | apply pw_below_drewN | apply below_drew1) | exact HB.out)⟩
                              · rw [if_neg c27] at H
                                have c27b0 : (t346 == 0) = false := beq_eq_false_iff_ne.mpr c27
                                have c27b1 : (t346 != 0) = true := bne_iff_ne.mpr c27
                                obtain rfl := Option.some.inj H
                                go_wp2_with (first | ((with_reducible refine gate_callee (f := 32) rfl ?_); refine goesL_ (some 79) rfl rfl Try.func32 (by kernel_rfl) rfl #[.slice (some ad344) l0.length c0, .int .i64 x7_2] rfl (by (try simp only [List.map_toArray, List.map_cons, List.map_nil]); first | done | rfl | (simp only [List.length_drop, List.length_take]; rfl)) ?_; (with_reducible refine (wire_Select.calls kj17 _ _ l0 x7_2 t345 t346 _ ?side1 ?side2 A26.out).mono ?_); (case side1 => repeat (first | exact (Kd.C_below HR0.out HB.out) | (with_reducible refine Kd.C_alloc ?_ _) | (with_reducible refine Kd.C_drewN ?_ _) | (with_reducible refine Kd.C_drew ?_))); (case side2 => exact HC0.out); rintro e w' ⟨rfl, ⟨nd, rfl⟩⟩; refine ⟨_, rfl, ?_⟩))
                                go_ret
                                exact ⟨by first | rfl | (simp [errW_none, errW_some] <;> rfl) | (simp only [← hji12, ← hji15, ← hji17]; first | rfl | (simp [errW_none, errW_some] <;> rfl)) | (simp [*, errW_none, errW_some] <;> rfl), by repeat (first | (with_reducible first | exact HB.out | apply below_alloc | apply pw_below_drewN | apply below_drew1) | exact HB.out)⟩
                            · rw [if_neg c25] at H
                              have c25b0 : ((Go.bits .and .u32 (ji17) 1) == 1) = false := by simpa using c25
                              (try (have c25b1 : decide ((Go.bits .and .u32 (ji17) 1) = 1) = false := by simpa using c25))
                              (try (have c25b2 : ((Go.bits .and .u32 (ji17) 1) == 1) = false := by simpa using c25))
                              (try (have c25b3 : ¬ ((Go.bits .and .u32 (ji17) 1) = 1) := by simpa using c25))
                              clear c25
                              have H' := Aside0.mk H
                              clear H
                              go_wp2
                              go_roundg kj17
                              case measure => have := HJ4.out; have := HK2.out; have := HJ17.out; omega
                              case rel => exact ⟨(t342), (x7_2), (wrap64 (x8_2 + 1)), (by first | rfl | (simp; done) | (simp [*]; done)), (by first | rfl | (simp; done) | (simp [*]; done)), (by first | rfl | (simp; done) | (simp [*]; done)), H', ⟨by have := HJ4.out; have := HK2.out; have := HJ17.out; omega⟩, ⟨by repeat (first | (with_reducible first | exact HB.out | apply below_alloc | apply pw_below_drewN | apply below_drew1) | exact HB.out)⟩⟩
                    · rw [if_neg c16] at H
                      exact absurd H (by simp)
                  · rw [if_neg c14] at H
                    exact absurd H (by simp)
                · rw [if_neg c13] at H
                  exact absurd H (by simp)
              · rw [if_neg c10] at H
                have c10b0 : decide (x8_2 < (wrap64 (32 * (l0.length : Int)))) = false := decide_eq_false c10
                clear c10
                replace H := Option.bind_eq_some_iff.mp H
                obtain ⟨⟨t337, t338⟩, A290, H⟩ := H
                replace H : ((turnpikelaw13_within.f a1 5).bind fun t339 => ((wire_Select.f k2 l0 (wrap64 ((-1) - t339))).bind fun bt340 => (if x6_2 = t336 then (if x7_2 = t336 then (if t338 = 2 then (some (bt340.2 == 2)) else (some false)) else (some false)) else (some false)))) = some r := H
                have A29 := Aside0.mk A290
                clear A290
                replace H := Option.bind_eq_some_iff.mp H
                obtain ⟨t339, A300, H⟩ := H
                replace H : ((wire_Select.f k2 l0 (wrap64 ((-1) - t339))).bind fun bt340 => (if x6_2 = t336 then (if x7_2 = t336 then (if t338 = 2 then (some (bt340.2 == 2)) else (some false)) else (some false)) else (some false))) = some r := H
                have A30 := Aside0.mk A300
                clear A300
                replace H := Option.bind_eq_some_iff.mp H
                obtain ⟨⟨t340, t341⟩, A310, H⟩ := H
                replace H : (if x6_2 = t336 then (if x7_2 = t336 then (if t338 = 2 then (some (t341 == 2)) else (some false)) else (some false)) else (some false)) = some r := H
                have A31 := Aside0.mk A310
                clear A310
                by_cases c32 : x6_2 = t336
                · rw [if_pos c32] at H
                  have c32b0 : (x6_2 == t336) = true := beq_iff_eq.mpr c32
                  have c32b1 : (x6_2 != t336) = false := bne_eq_false_iff_eq.mpr c32
                  clear c32
                  by_cases c33 : x7_2 = t336
                  · rw [if_pos c33] at H
                    have c33b0 : (x7_2 == t336) = true := beq_iff_eq.mpr c33
                    have c33b1 : (x7_2 != t336) = false := bne_eq_false_iff_eq.mpr c33
                    clear c33
                    by_cases c34 : t338 = 2
                    · rw [if_pos c34] at H
                      have c34b0 : (t338 == 2) = true := beq_iff_eq.mpr c34
                      have c34b1 : (t338 != 2) = false := bne_eq_false_iff_eq.mpr c34
                      clear c34
                      obtain rfl := Option.some.inj H
                      go_wp2_with (first | ((with_reducible refine gate_callee (f := 32) rfl ?_); refine goesL_ (some 94) rfl rfl Try.func32 (by kernel_rfl) rfl #[.slice A0 l0.length c0, .int .i64 t336] rfl (by (try simp only [List.map_toArray, List.map_cons, List.map_nil]); first | done | rfl | (simp only [List.length_drop, List.length_take]; rfl)) ?_; (with_reducible refine (wire_Select.calls k2 _ _ l0 t336 t337 t338 _ ?side1 ?side2 A29.out).mono ?_); (case side1 => repeat (first | exact (Kd.C_below HR0.out HB.out) | (with_reducible refine Kd.C_alloc ?_ _) | (with_reducible refine Kd.C_drewN ?_ _) | (with_reducible refine Kd.C_drew ?_))); (case side2 => exact HC0.out); rintro e w' ⟨rfl, ⟨nd, rfl⟩⟩; refine ⟨_, rfl, ?_⟩) | ((with_reducible refine gate_callee (f := 29) rfl ?_); refine goesL_ (some 100) rfl rfl Try.func29 (by kernel_rfl) rfl #[.int .i64 a1, .int .i64 5] rfl (by (try simp only [List.map_toArray, List.map_cons, List.map_nil]); first | done | rfl | (simp only [List.length_drop, List.length_take]; rfl)) ?_; (with_reducible refine (turnpikelaw13_within.calls a1 5 t339 _ A30.out).mono ?_); rintro e w' ⟨rfl, ⟨nd, rfl⟩⟩; refine ⟨_, rfl, ?_⟩) | ((with_reducible refine gate_callee (f := 32) rfl ?_); refine goesL_ (some 102) rfl rfl Try.func32 (by kernel_rfl) rfl #[.slice A0 l0.length c0, .int .i64 (wrap64 ((-1) - t339))] rfl (by (try simp only [List.map_toArray, List.map_cons, List.map_nil]); first | done | rfl | (simp only [List.length_drop, List.length_take]; rfl)) ?_; (with_reducible refine (wire_Select.calls k2 _ _ l0 (wrap64 ((-1) - t339)) t340 t341 _ ?side1 ?side2 A31.out).mono ?_); (case side1 => repeat (first | exact (Kd.C_below HR0.out (by repeat (first | (with_reducible first | exact HB.out | apply below_alloc | apply pw_below_drewN | apply below_drew1) | exact HB.out))) | (with_reducible refine Kd.C_alloc ?_ _) | (with_reducible refine Kd.C_drewN ?_ _) | (with_reducible refine Kd.C_drew ?_))); (case side2 => exact HC0.out); rintro e w' ⟨rfl, ⟨nd, rfl⟩⟩; refine ⟨_, rfl, ?_⟩))
                      go_ret
                      exact ⟨by first | rfl | (simp [errW_none, errW_some] <;> rfl) | (simp [*, errW_none, errW_some] <;> rfl), by repeat (first | (with_reducible first | exact HB.out | apply below_alloc | apply pw_below_drewN | apply below_drew1) | exact HB.out)⟩
                    · rw [if_neg c34] at H
                      have c34b0 : (t338 == 2) = false := beq_eq_false_iff_ne.mpr c34
                      have c34b1 : (t338 != 2) = true := bne_iff_ne.mpr c34
                      obtain rfl := Option.some.inj H
                      go_wp2_with (first | ((with_reducible refine gate_callee (f := 32) rfl ?_); refine goesL_ (some 94) rfl rfl Try.func32 (by kernel_rfl) rfl #[.slice A0 l0.length c0, .int .i64 t336] rfl (by (try simp only [List.map_toArray, List.map_cons, List.map_nil]); first | done | rfl | (simp only [List.length_drop, List.length_take]; rfl)) ?_; (with_reducible refine (wire_Select.calls k2 _ _ l0 t336 t337 t338 _ ?side1 ?side2 A29.out).mono ?_); (case side1 => repeat (first | exact (Kd.C_below HR0.out HB.out) | (with_reducible refine Kd.C_alloc ?_ _) | (with_reducible refine Kd.C_drewN ?_ _) | (with_reducible refine Kd.C_drew ?_))); (case side2 => exact HC0.out); rintro e w' ⟨rfl, ⟨nd, rfl⟩⟩; refine ⟨_, rfl, ?_⟩) | ((with_reducible refine gate_callee (f := 29) rfl ?_); refine goesL_ (some 100) rfl rfl Try.func29 (by kernel_rfl) rfl #[.int .i64 a1, .int .i64 5] rfl (by (try simp only [List.map_toArray, List.map_cons, List.map_nil]); first | done | rfl | (simp only [List.length_drop, List.length_take]; rfl)) ?_; (with_reducible refine (turnpikelaw13_within.calls a1 5 t339 _ A30.out).mono ?_); rintro e w' ⟨rfl, ⟨nd, rfl⟩⟩; refine ⟨_, rfl, ?_⟩) | ((with_reducible refine gate_callee (f := 32) rfl ?_); refine goesL_ (some 102) rfl rfl Try.func32 (by kernel_rfl) rfl #[.slice A0 l0.length c0, .int .i64 (wrap64 ((-1) - t339))] rfl (by (try simp only [List.map_toArray, List.map_cons, List.map_nil]); first | done | rfl | (simp only [List.length_drop, List.length_take]; rfl)) ?_; (with_reducible refine (wire_Select.calls k2 _ _ l0 (wrap64 ((-1) - t339)) t340 t341 _ ?side1 ?side2 A31.out).mono ?_); (case side1 => repeat (first | exact (Kd.C_below HR0.out (by repeat (first | (with_reducible first | exact HB.out | apply below_alloc | apply pw_below_drewN | apply below_drew1) | exact HB.out))) | (with_reducible refine Kd.C_alloc ?_ _) | (with_reducible refine Kd.C_drewN ?_ _) | (with_reducible refine Kd.C_drew ?_))); (case side2 => exact HC0.out); rintro e w' ⟨rfl, ⟨nd, rfl⟩⟩; refine ⟨_, rfl, ?_⟩))
                      go_ret
                      exact ⟨by first | rfl | (simp [errW_none, errW_some] <;> rfl) | (simp [*, errW_none, errW_some] <;> rfl), by repeat (first | (with_reducible first | exact HB.out | apply below_alloc | apply pw_below_drewN | apply below_drew1) | exact HB.out)⟩
                  · rw [if_neg c33] at H
                    have c33b0 : (x7_2 == t336) = false := beq_eq_false_iff_ne.mpr c33
                    have c33b1 : (x7_2 != t336) = true := bne_iff_ne.mpr c33
                    obtain rfl := Option.some.inj H
                    go_wp2_with (first | ((with_reducible refine gate_callee (f := 32) rfl ?_); refine goesL_ (some 94) rfl rfl Try.func32 (by kernel_rfl) rfl #[.slice A0 l0.length c0, .int .i64 t336] rfl (by (try simp only [List.map_toArray, List.map_cons, List.map_nil]); first | done | rfl | (simp only [List.length_drop, List.length_take]; rfl)) ?_; (with_reducible refine (wire_Select.calls k2 _ _ l0 t336 t337 t338 _ ?side1 ?side2 A29.out).mono ?_); (case side1 => repeat (first | exact (Kd.C_below HR0.out HB.out) | (with_reducible refine Kd.C_alloc ?_ _) | (with_reducible refine Kd.C_drewN ?_ _) | (with_reducible refine Kd.C_drew ?_))); (case side2 => exact HC0.out); rintro e w' ⟨rfl, ⟨nd, rfl⟩⟩; refine ⟨_, rfl, ?_⟩) | ((with_reducible refine gate_callee (f := 29) rfl ?_); refine goesL_ (some 100) rfl rfl Try.func29 (by kernel_rfl) rfl #[.int .i64 a1, .int .i64 5] rfl (by (try simp only [List.map_toArray, List.map_cons, List.map_nil]); first | done | rfl | (simp only [List.length_drop, List.length_take]; rfl)) ?_; (with_reducible refine (turnpikelaw13_within.calls a1 5 t339 _ A30.out).mono ?_); rintro e w' ⟨rfl, ⟨nd, rfl⟩⟩; refine ⟨_, rfl, ?_⟩) | ((with_reducible refine gate_callee (f := 32) rfl ?_); refine goesL_ (some 102) rfl rfl Try.func32 (by kernel_rfl) rfl #[.slice A0 l0.length c0, .int .i64 (wrap64 ((-1) - t339))] rfl (by (try simp only [List.map_toArray, List.map_cons, List.map_nil]); first | done | rfl | (simp only [List.length_drop, List.length_take]; rfl)) ?_; (with_reducible refine (wire_Select.calls k2 _ _ l0 (wrap64 ((-1) - t339)) t340 t341 _ ?side1 ?side2 A31.out).mono ?_); (case side1 => repeat (first | exact (Kd.C_below HR0.out (by repeat (first | (with_reducible first | exact HB.out | apply below_alloc | apply pw_below_drewN | apply below_drew1) | exact HB.out))) | (with_reducible refine Kd.C_alloc ?_ _) | (with_reducible refine Kd.C_drewN ?_ _) | (with_reducible refine Kd.C_drew ?_))); (case side2 => exact HC0.out); rintro e w' ⟨rfl, ⟨nd, rfl⟩⟩; refine ⟨_, rfl, ?_⟩))
                    go_ret
                    exact ⟨by first | rfl | (simp [errW_none, errW_some] <;> rfl) | (simp [*, errW_none, errW_some] <;> rfl), by repeat (first | (with_reducible first | exact HB.out | apply below_alloc | apply pw_below_drewN | apply below_drew1) | exact HB.out)⟩
                · rw [if_neg c32] at H
                  have c32b0 : (x6_2 == t336) = false := beq_eq_false_iff_ne.mpr c32
                  have c32b1 : (x6_2 != t336) = true := bne_iff_ne.mpr c32
                  obtain rfl := Option.some.inj H
                  go_wp2_with (first | ((with_reducible refine gate_callee (f := 32) rfl ?_); refine goesL_ (some 94) rfl rfl Try.func32 (by kernel_rfl) rfl #[.slice A0 l0.length c0, .int .i64 t336] rfl (by (try simp only [List.map_toArray, List.map_cons, List.map_nil]); first | done | rfl | (simp only [List.length_drop, List.length_take]; rfl)) ?_; (with_reducible refine (wire_Select.calls k2 _ _ l0 t336 t337 t338 _ ?side1 ?side2 A29.out).mono ?_); (case side1 => repeat (first | exact (Kd.C_below HR0.out HB.out) | (with_reducible refine Kd.C_alloc ?_ _) | (with_reducible refine Kd.C_drewN ?_ _) | (with_reducible refine Kd.C_drew ?_))); (case side2 => exact HC0.out); rintro e w' ⟨rfl, ⟨nd, rfl⟩⟩; refine ⟨_, rfl, ?_⟩) | ((with_reducible refine gate_callee (f := 29) rfl ?_); refine goesL_ (some 100) rfl rfl Try.func29 (by kernel_rfl) rfl #[.int .i64 a1, .int .i64 5] rfl (by (try simp only [List.map_toArray, List.map_cons, List.map_nil]); first | done | rfl | (simp only [List.length_drop, List.length_take]; rfl)) ?_; (with_reducible refine (turnpikelaw13_within.calls a1 5 t339 _ A30.out).mono ?_); rintro e w' ⟨rfl, ⟨nd, rfl⟩⟩; refine ⟨_, rfl, ?_⟩) | ((with_reducible refine gate_callee (f := 32) rfl ?_); refine goesL_ (some 102) rfl rfl Try.func32 (by kernel_rfl) rfl #[.slice A0 l0.length c0, .int .i64 (wrap64 ((-1) - t339))] rfl (by (try simp only [List.map_toArray, List.map_cons, List.map_nil]); first | done | rfl | (simp only [List.length_drop, List.length_take]; rfl)) ?_; (with_reducible refine (wire_Select.calls k2 _ _ l0 (wrap64 ((-1) - t339)) t340 t341 _ ?side1 ?side2 A31.out).mono ?_); (case side1 => repeat (first | exact (Kd.C_below HR0.out (by repeat (first | (with_reducible first | exact HB.out | apply below_alloc | apply pw_below_drewN | apply below_drew1) | exact HB.out))) | (with_reducible refine Kd.C_alloc ?_ _) | (with_reducible refine Kd.C_drewN ?_ _) | (with_reducible refine Kd.C_drew ?_))); (case side2 => exact HC0.out); rintro e w' ⟨rfl, ⟨nd, rfl⟩⟩; refine ⟨_, rfl, ?_⟩))
                  go_ret
                  exact ⟨by first | rfl | (simp [errW_none, errW_some] <;> rfl) | (simp [*, errW_none, errW_some] <;> rfl), by repeat (first | (with_reducible first | exact HB.out | apply below_alloc | apply pw_below_drewN | apply below_drew1) | exact HB.out)⟩
  · replace c4 := Bool.eq_false_iff.mpr c4
    subst c4
    have H1 : (some false) = some r := by rw [if_neg (show ¬ (false = true) by decide)] at H; exact H
    clear H
    have H := H1
    clear H1
    obtain rfl := Option.some.inj H
    go_enter Try.func10, Try.ntmps10
    go_wp2_with (first | ((with_reducible refine gate_callee (f := 14) rfl ?_); refine goesL_ (some 18) rfl rfl Try.func14 (by kernel_rfl) rfl #[] rfl (by (try simp only [List.map_toArray, List.map_cons, List.map_nil]); first | done | rfl | (simp only [List.length_drop, List.length_take]; rfl)) ?_; (with_reducible refine (turnpikelaw13_known.calls  false _ A3.out).mono ?_); rintro e w35 ⟨rfl, hb⟩; refine ⟨_, rfl, ?_⟩; have n0_ := Aside0.mk (below_step (by repeat (first | (with_reducible first | exact HB.out | apply below_alloc | apply pw_below_drewN | apply below_drew1) | exact HB.out)) hb); clear HB; have HB := n0_; clear n0_; (try clear hb); (try clear hb2); (try clear hk); (try clear hi)))
    go_ret
    exact ⟨by first | rfl | (simp [errW_none, errW_some] <;> rfl) | (simp [*, errW_none, errW_some] <;> rfl), by repeat (first | (with_reducible first | exact HB.out | apply below_alloc | apply pw_below_drewN | apply below_drew1) | exact HB.out)⟩

/-- THE ONE PURE STATEMENT of turnpikelaw13_WireSelects: yours. -/
def turnpikelaw13_WireSelects.Pure : Prop := ∀ (l0 : List Int) (a1 : Int), l0.length ≤ maxLen → l0.length * 4 ≤ 140737488351232 → (∀ x ∈ l0, (Lit.int .u32 x).wf = true) → (Lit.int .i64 a1).wf = true → ∃ k, turnpikelaw13_WireSelects.f k l0 a1 = some true
theorem turnpikelaw13_WireSelects.walk (P : turnpikelaw13_WireSelects.Pure) (a0 : Option Addr) (len0 cap0 : Nat) (z0 : List Int) (a1 : Int) (w : World) (w0 : (a0 = none ∧ len0 = 0 ∧ cap0 = 0 ∧ z0 = []) ∨ ∃ x, a0 = some x ∧ len0 ≤ cap0 ∧ cap0 ≤ maxLen ∧ z0.length = cap0 ∧ (∀ i, i < z0.length → w.cell? (x.add i) = some (.int .u32 (z0.getD i 0))) ∧ ∀ n ∈ z0, (Lit.int .u32 n).wf = true) (y0 : len0 * 4 ≤ 140737488351232) (w1 : (Lit.int .i64 a1).wf = true) :
    Calls Try.prog 10 #[.slice a0 len0 cap0, .int .i64 a1] w fun e w' => e = .returned (.bool true) ∧ Below w.heap.size w w' := by
  obtain ⟨l0, rfl, hr0, hm0, hw0, hc0⟩ := ReadsInt.ofRowC w0
  obtain ⟨k, h⟩ := P l0 a1 hm0 y0 hw0 w1
  refine (turnpikelaw13_WireSelects.calls k _ _ l0 a1 true w (Kd.C_of_reads (d := (0 : Int)) (h1 := fun _ => rfl) hr0) hc0 h).mono ?_
  rintro e w' ⟨rfl, hd⟩
  exact ⟨rfl, hd⟩

end Go.Proofs.Ytpehkbkbfpbolaa.PW
