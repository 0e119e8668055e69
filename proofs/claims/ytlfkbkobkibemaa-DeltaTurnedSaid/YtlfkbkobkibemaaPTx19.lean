-- Written by wip/xprint.py, a driver of this session's own over the kit's printer; Lean checks it.
import Derived.Test.YtlfkbkobkibemaaPTx0
namespace Go.Proofs.Ytlfkbkobkibemaa.PT
open Go.Proofs.YtlfkbkobkibemaaM Go.RowKit Go.Proofs.YtlfkbkobkibemaaW.PrintWords Go.Proofs.YtlfkbkobkibemaaW.PrintLast Go.Proofs.YtlfkbkobkibemaaW.PrintMore
attribute [local go_sem] max2_int min2_int max_two min_two max_three min_three max_four min_four   -- for this text's walks alone
set_option linter.unusedVariables false
set_option linter.unusedSimpArgs false

/-! ### turnpikeref21_Fit: function 27 -/
mutual
def turnpikeref21_Fit.l0 : Nat → Int → List (S33) → Int → Option (Bool)
  | 0, _, _, _ => none
  | k + 1, x0, x1, x5 => if x5 < (x1.length : Int) then (if 0 ≤ x5 then (if ((rd_T33 x1 x5).f0) < 0 then (turnpikeref21_Fit.j1 k x0 x1 x5 true) else (turnpikeref21_Fit.j1 k x0 x1 x5 (decide (((rd_T33 x1 x5).f0) > x0)))) else (none)) else (some true)
def turnpikeref21_Fit.j1 : Nat → Int → List (S33) → Int → Bool → Option (Bool)
  | 0, _, _, _, _ => none
  | k + 1, x0, x1, x5, x26 => if x26 = true then (some false) else (if 0 ≤ x5 then (if x5 < (x1.length : Int) then (if ((rd_T33 x1 x5).f1) < 0 then (some false) else (if ((rd_T33 x1 x5).f1) > (wrap64 (x0 - ((rd_T33 x1 x5).f0))) then (some false) else (turnpikeref21_Fit.l0 k (wrap64 ((wrap64 (x0 - ((rd_T33 x1 x5).f0))) - ((rd_T33 x1 x5).f1))) x1 (wrap64 (x5 + 1))))) else (none)) else (none))
end
def turnpikeref21_Fit.f (k : Nat) (a0 : Int) (l1 : List (S33)) : Option (Bool) := turnpikeref21_Fit.l0 k a0 l1 0
theorem turnpikeref21_Fit.mono_l : ∀ k, (∀ y0 y1 y2, LeO (turnpikeref21_Fit.l0 k y0 y1 y2) (turnpikeref21_Fit.l0 (k + 1) y0 y1 y2)) ∧ (∀ y0 y1 y2 y3, LeO (turnpikeref21_Fit.j1 k y0 y1 y2 y3) (turnpikeref21_Fit.j1 (k + 1) y0 y1 y2 y3))
  | 0 => ⟨fun _ _ _ r h => by simp [turnpikeref21_Fit.l0] at h, fun _ _ _ _ r h => by simp [turnpikeref21_Fit.j1] at h⟩
  | k + 1 => by
    obtain ⟨ih0, ih1⟩ := turnpikeref21_Fit.mono_l k
    refine ⟨?_, ?_⟩
    · intro y0 y1 y2
      unfold turnpikeref21_Fit.l0
      repeat' first
      | (with_reducible exact ih0 _ _ _)
      | (with_reducible exact ih1 _ _ _ _)
      | (with_reducible exact LeO.refl _)
      | (with_reducible exact LeO.none _)
      | (with_reducible refine LeO.ite ?_ ?_)
      | (with_reducible refine LeO.bind ?_ (fun _ => ?_))
      | exact ih0 _ _ _
      | exact ih1 _ _ _ _
      | exact LeO.none _
      | refine LeO.ite ?_ ?_
      | refine LeO.bind ?_ (fun _ => ?_)
    · intro y0 y1 y2 y3
      unfold turnpikeref21_Fit.j1
      repeat' first
      | (with_reducible exact ih0 _ _ _)
      | (with_reducible exact ih1 _ _ _ _)
      | (with_reducible exact LeO.refl _)
      | (with_reducible exact LeO.none _)
      | (with_reducible refine LeO.ite ?_ ?_)
      | (with_reducible refine LeO.bind ?_ (fun _ => ?_))
      | exact ih0 _ _ _
      | exact ih1 _ _ _ _
      | exact LeO.none _
      | refine LeO.ite ?_ ?_
      | refine LeO.bind ?_ (fun _ => ?_)
theorem turnpikeref21_Fit.mono : ∀ a0 a1 k, LeO (turnpikeref21_Fit.f k a0 a1) (turnpikeref21_Fit.f (k + 1) a0 a1) := by
  intro a0 a1 k
  obtain ⟨ih0, ih1⟩ := turnpikeref21_Fit.mono_l k
  unfold turnpikeref21_Fit.f
  repeat' first
      | (with_reducible exact ih0 _ _ _)
      | (with_reducible exact ih1 _ _ _ _)
      | (with_reducible exact LeO.refl _)
      | (with_reducible exact LeO.none _)
      | (with_reducible refine LeO.ite ?_ ?_)
      | (with_reducible refine LeO.bind ?_ (fun _ => ?_))
      | exact ih0 _ _ _
      | exact ih1 _ _ _ _
      | exact LeO.none _
      | refine LeO.ite ?_ ?_
      | refine LeO.bind ?_ (fun _ => ?_)
set_option maxHeartbeats 8000000 in
set_option maxRecDepth 100000 in
theorem turnpikeref21_Fit.calls (k : Nat) (a0 : Int) (A1 : Option Addr) (c1 : Nat) (l1 : List (S33)) (r : Bool) (w : World) (hr1 : Kd.C k33 w A1 l1.length l1) (hc1 : l1.length ≤ c1) (h : turnpikeref21_Fit.f k a0 l1 = some r) :
    Calls Try.prog 27 #[.int .i64 a0, .slice A1 l1.length c1] w fun e w' => e = .returned (.bool r) ∧ Drawn0 w w' := by
  have HR1 := Aside0.mk hr1
  have HC1 := Aside0.mk hc1
  clear hr1 hc1
  have H : (turnpikeref21_Fit.l0 k a0 l1 0) = some r := h
  clear h
  have H' := Aside0.mk H
  clear H
  go_enter Try.func27, Try.ntmps27
  go_wp2
  go_loopg [0, 5] k (fun kq v0 v5 w' => ∃ (x0_1 : Int) (x5_1 : Int), v0 = .int .i64 x0_1 ∧ v5 = .int .i64 x5_1 ∧ Aside0 (turnpikeref21_Fit.l0 kq x0_1 l1 x5_1 = some r) ∧ Aside0 (kq ≤ k) ∧ Drawn0 w w')
  case atStart => exact ⟨(a0), (0), (by first | rfl | (simp; done) | (simp [*]; done)), (by first | rfl | (simp; done) | (simp [*]; done)), H', ⟨Nat.le_refl _⟩, by repeat (first | exact Drawn0.refl _ | apply Drawn0.step)⟩
  case round =>
    clear H'
    try clear c1
    try clear c2
    try clear p2
    obtain ⟨x0_1, x5_1, rfl, rfl, HA, HK1, ⟨m1, rfl⟩⟩ := hrel
    cases gk with
    | zero => exact absurd HA.out (by simp [turnpikeref21_Fit.l0])
    | succ k1 =>
      have H := HA.out
      clear HA
      simp only [turnpikeref21_Fit.l0] at H
      by_cases c3 : x5_1 < (l1.length : Int)
      · rw [if_pos c3] at H
        have c3b0 : decide (x5_1 < (l1.length : Int)) = true := decide_eq_true c3
        clear c3
        have HC4 := Aside0.mk H
        clear H
        go_upto_region 4 with (fail)
        go_cut [26] (fun v26 wc => ∃ (kq : Nat) (x26_3 : Bool), v26 = .bool x26_3 ∧ Aside0 (turnpikeref21_Fit.j1 kq x0_1 l1 x5_1 x26_3 = some r) ∧ Aside0 (kq ≤ k1) ∧ Drawn0 w wc)
        case first =>
          have H := HC4.out
          clear HC4
          by_cases c5 : 0 ≤ x5_1
          · rw [if_pos c5] at H
            have c5b0 : decide (0 ≤ x5_1) = true := decide_eq_true c5
            clear c5
            (first | rw [c5b0] | (simp only [i64_w, i32_w]; rw [c5b0]) | skip)
            by_cases c6 : ((rd_T33 l1 x5_1).f0) < 0
            · rw [if_pos c6] at H
              have c6b0 : decide (((rd_T33 l1 x5_1).f0) < 0) = true := decide_eq_true c6
              clear c6
              have H' := Aside0.mk H
              clear H
              have p289 : 0 ≤ (x5_1 : Int) := of_decide_eq_true (by first | (with_reducible assumption) | assumption)
              have q289 : x5_1 < (l1.length : Int) := of_decide_eq_true (by first | (with_reducible assumption) | assumption)
              obtain ⟨ad289, A289_2, c289_2, e289, hx289_0, hx289_1, hx289_2, hl289_2, hi289_2⟩ := at_T33 HR1.out x5_1 p289 q289
              cases e289
              have HR289_2 := Aside0.mk hi289_2
              have HC289_2 := Aside0.mk hl289_2
              clear hi289_2 hl289_2
              replace p289 := eq_true p289
              replace q289 := eq_true q289
              go_wp2
              go_meet
              case rel => exact ⟨_, (true), (by first | rfl | (simp; done) | (simp [*]; done)), H', ⟨by have := HK1.out; first | omega | exact Nat.le_refl _⟩, by repeat (first | exact Drawn0.refl _ | apply Drawn0.step)⟩
            · rw [if_neg c6] at H
              have c6b0 : decide (((rd_T33 l1 x5_1).f0) < 0) = false := decide_eq_false c6
              clear c6
              have H' := Aside0.mk H
              clear H
              have p289 : 0 ≤ (x5_1 : Int) := of_decide_eq_true (by first | (with_reducible assumption) | assumption)
              have q289 : x5_1 < (l1.length : Int) := of_decide_eq_true (by first | (with_reducible assumption) | assumption)
              obtain ⟨ad289, A289_2, c289_2, e289, hx289_0, hx289_1, hx289_2, hl289_2, hi289_2⟩ := at_T33 HR1.out x5_1 p289 q289
              cases e289
              have HR289_2 := Aside0.mk hi289_2
              have HC289_2 := Aside0.mk hl289_2
              clear hi289_2 hl289_2
              replace p289 := eq_true p289
              replace q289 := eq_true q289
              have p290 : 0 ≤ (x5_1 : Int) := of_decide_eq_true (by first | (with_reducible assumption) | assumption)
              have q290 : x5_1 < (l1.length : Int) := of_decide_eq_true (by first | (with_reducible assumption) | assumption)
              obtain ⟨ad290, A290_2, c290_2, e290, hx290_0, hx290_1, hx290_2, hl290_2, hi290_2⟩ := at_T33 HR1.out x5_1 p290 q290
              obtain rfl : ad289 = ad290 := (by injection e290)
              have HR290_2 := Aside0.mk hi290_2
              have HC290_2 := Aside0.mk hl290_2
              clear hi290_2 hl290_2
              replace p290 := eq_true p290
              replace q290 := eq_true q290
              have ea_ := Option.some.inj (hx289_2.symm.trans hx290_2)
              injection ea_ with ea_ en_ ec_
              subst ea_
              subst ec_
              clear en_
              go_wp2
              go_meet
              case rel => exact ⟨_, (decide (((rd_T33 l1 x5_1).f0) > x0_1)), (by first | rfl | (simp; done) | (simp [*]; done)), H', ⟨by have := HK1.out; first | omega | exact Nat.le_refl _⟩, by repeat (first | exact Drawn0.refl _ | apply Drawn0.step)⟩
          · rw [if_neg c5] at H
            exact absurd H (by simp)
        case rest =>
          clear HC4
          try clear c1
          try clear c2
          try clear p2
          try clear q2
          try clear hx2
          try clear c3
          try clear c3b0
          try clear c5
          try clear c5b0
          try clear c6
          try clear c6b0
          try clear hx289_0
          try clear hx289_1
          try clear hx289_2
          try clear hx290_0
          try clear hx290_1
          try clear hx290_2
          try clear p2
          try clear p289
          try clear p290
          try clear q289
          try clear q290
          obtain ⟨kq, x26_3, rfl, HA, HJ3, ⟨mc3, rfl⟩⟩ := hcut
          cases kq with
          | zero => exact absurd HA.out (by simp [turnpikeref21_Fit.j1])
          | succ kj3 =>
            have H := HA.out
            clear HA
            simp only [turnpikeref21_Fit.j1] at H
            by_cases c7 : x26_3 = true
            · subst c7
              have H1 : (some false) = some r := by rw [if_pos rfl] at H; exact H
              clear H
              have H := H1
              clear H1
              obtain rfl := Option.some.inj H
              go_wp2
              go_ret
              exact ⟨by first | rfl | (simp; done) | (simp [*]; done), by repeat (first | exact Drawn0.refl _ | apply Drawn0.step)⟩
            · replace c7 := Bool.eq_false_iff.mpr c7
              subst c7
              have H1 : (if 0 ≤ x5_1 then (if x5_1 < (l1.length : Int) then (if ((rd_T33 l1 x5_1).f1) < 0 then (some false) else (if ((rd_T33 l1 x5_1).f1) > (wrap64 (x0_1 - ((rd_T33 l1 x5_1).f0))) then (some false) else (turnpikeref21_Fit.l0 kj3 (wrap64 ((wrap64 (x0_1 - ((rd_T33 l1 x5_1).f0))) - ((rd_T33 l1 x5_1).f1))) l1 (wrap64 (x5_1 + 1))))) else (none)) else (none)) = some r := by rw [if_neg (show ¬ (false = true) by decide)] at H; exact H
              clear H
              have H := H1
              clear H1
              by_cases c8 : 0 ≤ x5_1
              · rw [if_pos c8] at H
                have c8b0 : decide (0 ≤ x5_1) = true := decide_eq_true c8
                clear c8
                by_cases c9 : x5_1 < (l1.length : Int)
                · rw [if_pos c9] at H
                  have c9b0 : decide (x5_1 < (l1.length : Int)) = true := decide_eq_true c9
                  clear c9
                  by_cases c10 : ((rd_T33 l1 x5_1).f1) < 0
                  · rw [if_pos c10] at H
                    have c10b0 : decide (((rd_T33 l1 x5_1).f1) < 0) = true := decide_eq_true c10
                    clear c10
                    obtain rfl := Option.some.inj H
                    have p291 : 0 ≤ (x5_1 : Int) := of_decide_eq_true (by first | (with_reducible assumption) | assumption)
                    have q291 : x5_1 < (l1.length : Int) := of_decide_eq_true (by first | (with_reducible assumption) | assumption)
                    obtain ⟨ad291, A291_2, c291_2, e291, hx291_0, hx291_1, hx291_2, hl291_2, hi291_2⟩ := at_T33 HR1.out x5_1 p291 q291
                    cases e291
                    have HR291_2 := Aside0.mk hi291_2
                    have HC291_2 := Aside0.mk hl291_2
                    clear hi291_2 hl291_2
                    replace p291 := eq_true p291
                    replace q291 := eq_true q291
                    have p292 : 0 ≤ (x5_1 : Int) := of_decide_eq_true (by first | (with_reducible assumption) | assumption)
                    have q292 : x5_1 < (l1.length : Int) := of_decide_eq_true (by first | (with_reducible assumption) | assumption)
                    obtain ⟨ad292, A292_2, c292_2, e292, hx292_0, hx292_1, hx292_2, hl292_2, hi292_2⟩ := at_T33 HR1.out x5_1 p292 q292
                    obtain rfl : ad291 = ad292 := (by injection e292)
                    have HR292_2 := Aside0.mk hi292_2
                    have HC292_2 := Aside0.mk hl292_2
                    clear hi292_2 hl292_2
                    replace p292 := eq_true p292
                    replace q292 := eq_true q292
                    have ea_ := Option.some.inj (hx291_2.symm.trans hx292_2)
                    injection ea_ with ea_ en_ ec_
                    subst ea_
                    subst ec_
                    clear en_
                    go_wp2
                    go_ret
                    exact ⟨by first | rfl | (simp; done) | (simp [*]; done), by repeat (first | exact Drawn0.refl _ | apply Drawn0.step)⟩
                  · rw [if_neg c10] at H
                    have c10b0 : decide (((rd_T33 l1 x5_1).f1) < 0) = false := decide_eq_false c10
                    clear c10
                    by_cases c11 : ((rd_T33 l1 x5_1).f1) > (wrap64 (x0_1 - ((rd_T33 l1 x5_1).f0)))
                    · rw [if_pos c11] at H
                      have c11b0 : decide ((wrap64 (x0_1 - ((rd_T33 l1 x5_1).f0))) < ((rd_T33 l1 x5_1).f1)) = true := decide_eq_true c11
                      clear c11
                      obtain rfl := Option.some.inj H
                      have p291 : 0 ≤ (x5_1 : Int) := of_decide_eq_true (by first | (with_reducible assumption) | assumption)
                      have q291 : x5_1 < (l1.length : Int) := of_decide_eq_true (by first | (with_reducible assumption) | assumption)
                      obtain ⟨ad291, A291_2, c291_2, e291, hx291_0, hx291_1, hx291_2, hl291_2, hi291_2⟩ := at_T33 HR1.out x5_1 p291 q291
                      cases e291
                      have HR291_2 := Aside0.mk hi291_2
                      have HC291_2 := Aside0.mk hl291_2
                      clear hi291_2 hl291_2
                      replace p291 := eq_true p291
                      replace q291 := eq_true q291
                      have p292 : 0 ≤ (x5_1 : Int) := of_decide_eq_true (by first | (with_reducible assumption) | assumption)
                      have q292 : x5_1 < (l1.length : Int) := of_decide_eq_true (by first | (with_reducible assumption) | assumption)
                      obtain ⟨ad292, A292_2, c292_2, e292, hx292_0, hx292_1, hx292_2, hl292_2, hi292_2⟩ := at_T33 HR1.out x5_1 p292 q292
                      obtain rfl : ad291 = ad292 := (by injection e292)
                      have HR292_2 := Aside0.mk hi292_2
                      have HC292_2 := Aside0.mk hl292_2
                      clear hi292_2 hl292_2
                      replace p292 := eq_true p292
                      replace q292 := eq_true q292
                      have ea_ := Option.some.inj (hx291_2.symm.trans hx292_2)
                      injection ea_ with ea_ en_ ec_
                      subst ea_
                      subst ec_
                      clear en_
                      have p293 : 0 ≤ (x5_1 : Int) := of_decide_eq_true (by first | (with_reducible assumption) | assumption)
                      have q293 : x5_1 < (l1.length : Int) := of_decide_eq_true (by first | (with_reducible assumption) | assumption)
                      obtain ⟨ad293, A293_2, c293_2, e293, hx293_0, hx293_1, hx293_2, hl293_2, hi293_2⟩ := at_T33 HR1.out x5_1 p293 q293
                      obtain rfl : ad291 = ad293 := (by injection e293)
                      have HR293_2 := Aside0.mk hi293_2
                      have HC293_2 := Aside0.mk hl293_2
                      clear hi293_2 hl293_2
                      replace p293 := eq_true p293
                      replace q293 := eq_true q293
                      have ea_ := Option.some.inj (hx291_2.symm.trans hx293_2)
                      injection ea_ with ea_ en_ ec_
                      subst ea_
                      subst ec_
                      clear en_
                      go_wp2
                      go_ret
                      exact ⟨by first | rfl | (simp; done) | (simp [*]; done), by repeat (first | exact Drawn0.refl _ | apply Drawn0.step)⟩
                    · rw [if_neg c11] at H
                      have c11b0 : decide ((wrap64 (x0_1 - ((rd_T33 l1 x5_1).f0))) < ((rd_T33 l1 x5_1).f1)) = false := decide_eq_false c11
                      clear c11
                      have H' := Aside0.mk H
                      clear H
                      have p291 : 0 ≤ (x5_1 : Int) := of_decide_eq_true (by first | (with_reducible assumption) | assumption)
                      have q291 : x5_1 < (l1.length : Int) := of_decide_eq_true (by first | (with_reducible assumption) | assumption)
                      obtain ⟨ad291, A291_2, c291_2, e291, hx291_0, hx291_1, hx291_2, hl291_2, hi291_2⟩ := at_T33 HR1.out x5_1 p291 q291
                      cases e291
                      have HR291_2 := Aside0.mk hi291_2
                      have HC291_2 := Aside0.mk hl291_2
                      clear hi291_2 hl291_2
                      replace p291 := eq_true p291
                      replace q291 := eq_true q291
                      have p292 : 0 ≤ (x5_1 : Int) := of_decide_eq_true (by first | (with_reducible assumption) | assumption)
                      have q292 : x5_1 < (l1.length : Int) := of_decide_eq_true (by first | (with_reducible assumption) | assumption)
                      obtain ⟨ad292, A292_2, c292_2, e292, hx292_0, hx292_1, hx292_2, hl292_2, hi292_2⟩ := at_T33 HR1.out x5_1 p292 q292
                      obtain rfl : ad291 = ad292 := (by injection e292)
                      have HR292_2 := Aside0.mk hi292_2
                      have HC292_2 := Aside0.mk hl292_2
                      clear hi292_2 hl292_2
                      replace p292 := eq_true p292
                      replace q292 := eq_true q292
                      have ea_ := Option.some.inj (hx291_2.symm.trans hx292_2)
                      injection ea_ with ea_ en_ ec_
                      subst ea_
                      subst ec_
                      clear en_
                      have p293 : 0 ≤ (x5_1 : Int) := of_decide_eq_true (by first | (with_reducible assumption) | assumption)
                      have q293 : x5_1 < (l1.length : Int) := of_decide_eq_true (by first | (with_reducible assumption) | assumption)
                      obtain ⟨ad293, A293_2, c293_2, e293, hx293_0, hx293_1, hx293_2, hl293_2, hi293_2⟩ := at_T33 HR1.out x5_1 p293 q293
                      obtain rfl : ad291 = ad293 := (by injection e293)
                      have HR293_2 := Aside0.mk hi293_2
                      have HC293_2 := Aside0.mk hl293_2
                      clear hi293_2 hl293_2
                      replace p293 := eq_true p293
                      replace q293 := eq_true q293
                      have ea_ := Option.some.inj (hx291_2.symm.trans hx293_2)
                      injection ea_ with ea_ en_ ec_
                      subst ea_
                      subst ec_
                      clear en_
                      have p294 : 0 ≤ (x5_1 : Int) := of_decide_eq_true (by first | (with_reducible assumption) | assumption)
                      have q294 : x5_1 < (l1.length : Int) := of_decide_eq_true (by first | (with_reducible assumption) | assumption)
                      obtain ⟨ad294, A294_2, c294_2, e294, hx294_0, hx294_1, hx294_2, hl294_2, hi294_2⟩ := at_T33 HR1.out x5_1 p294 q294
                      obtain rfl : ad291 = ad294 := (by injection e294)
                      have HR294_2 := Aside0.mk hi294_2
                      have HC294_2 := Aside0.mk hl294_2
                      clear hi294_2 hl294_2
                      replace p294 := eq_true p294
                      replace q294 := eq_true q294
                      have ea_ := Option.some.inj (hx291_2.symm.trans hx294_2)
                      injection ea_ with ea_ en_ ec_
                      subst ea_
                      subst ec_
                      clear en_
                      go_wp2
                      go_roundg kj3
                      case measure => have := HK1.out; have := HJ3.out; omega
                      case rel => exact ⟨(wrap64 ((wrap64 (x0_1 - ((rd_T33 l1 x5_1).f0))) - ((rd_T33 l1 x5_1).f1))), (wrap64 (x5_1 + 1)), (by first | rfl | (simp; done) | (simp [*]; done)), (by first | rfl | (simp; done) | (simp [*]; done)), H', ⟨by have := HK1.out; have := HJ3.out; omega⟩, by repeat (first | exact Drawn0.refl _ | apply Drawn0.step)⟩
                · rw [if_neg c9] at H
                  exact absurd H (by simp)
              · rw [if_neg c8] at H
                exact absurd H (by simp)
      · rw [if_neg c3] at H
        have c3b0 : decide (x5_1 < (l1.length : Int)) = false := decide_eq_false c3
        clear c3
        obtain rfl := Option.some.inj H
        go_wp2
        go_ret
        exact ⟨by first | rfl | (simp; done) | (simp [*]; done), by repeat (first | exact Drawn0.refl _ | apply Drawn0.step)⟩

end Go.Proofs.Ytlfkbkobkibemaa.PT
