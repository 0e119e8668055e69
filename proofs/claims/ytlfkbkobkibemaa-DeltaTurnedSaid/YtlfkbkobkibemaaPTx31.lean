-- Written by wip/xprint.py, a driver of this session's own over the kit's printer; Lean checks it.
import Derived.Test.YtlfkbkobkibemaaPTx0
import Derived.Test.YtlfkbkobkibemaaPTx19
import Derived.Test.YtlfkbkobkibemaaPTx23
import Derived.Test.YtlfkbkobkibemaaPTx30
namespace Go.Proofs.Ytlfkbkobkibemaa.PT
open Go.Proofs.YtlfkbkobkibemaaM Go.RowKit Go.Proofs.YtlfkbkobkibemaaW.PrintWords Go.Proofs.YtlfkbkobkibemaaW.PrintLast Go.Proofs.YtlfkbkobkibemaaW.PrintMore
attribute [local go_sem] max2_int min2_int max_two min_two max_three min_three max_four min_four   -- for this text's walks alone
set_option linter.unusedVariables false
set_option linter.unusedSimpArgs false

/-! ### turnpikeref21_Parse: function 24 -/
mutual
def turnpikeref21_Parse.j0 : Nat → List Int → List Int → Int → Bool → Option ((List (S33)) × Int)
  | 0, _, _, _, _ => none
  | k + 1, x0, x1, x6, x67 => if x67 = true then (some (([] : List (S33)), 33)) else ((turnpikeref13_Get.f k x1 12 4).bind fun bt371 => (turnpikeref21_Parse.l0 k x0 x1 x6 bt371.1 ([] : List (S33)) 16 0))
def turnpikeref21_Parse.l0 : Nat → List Int → List Int → Int → Int → List (S33) → Int → Int → Option ((List (S33)) × Int)
  | 0, _, _, _, _, _, _, _ => none
  | k + 1, x0, x1, x6, x13, x15, x16, x17 => if x17 < (wrap64 (x13)) then (if (wrap64 (x6 - x16)) < 12 then (some (([] : List (S33)), 22)) else ((turnpikeref13_Get.f k x1 x16 4).bind fun bt373 => ((turnpikeref13_Get.f k x1 (wrap64 (x16 + 4)) 4).bind fun bt375 => ((turnpikeref13_Get.f k x1 (wrap64 (x16 + 8)) 4).bind fun bt377 => (if (wrap64 (x6 - (wrap64 (x16 + 12)))) < (wrap64 (bt377.1)) then (some (([] : List (S33)), 22)) else (if 0 ≤ (wrap64 (x16 + 12)) then (if (wrap64 (x16 + 12)) ≤ (wrap64 ((wrap64 (x16 + 12)) + (wrap64 (bt377.1)))) then (if (wrap64 ((wrap64 (x16 + 12)) + (wrap64 (bt377.1)))) ≤ (x1.length : Int) then (if ([] : List Int).length + ((x1.take ((wrap64 ((wrap64 (x16 + 12)) + (wrap64 (bt377.1)))) : Int).toNat).drop ((wrap64 (x16 + 12)) : Int).toNat).length < 140737488355328 then (if x15.length < 3518437208883 then (turnpikeref21_Parse.l0 k x0 x1 x6 x13 (x15 ++ [(⟨wrap64 (bt373.1), wrap64 (bt375.1), (([] : List Int) ++ ((x1.take ((wrap64 ((wrap64 (x16 + 12)) + (wrap64 (bt377.1)))) : Int).toNat).drop ((wrap64 (x16 + 12)) : Int).toNat))⟩ : S33)]) (wrap64 ((wrap64 (x16 + 12)) + (wrap64 (bt377.1)))) (wrap64 (x17 + 1))) else (none)) else (none)) else (none)) else (none)) else (none))))))) else (if x16 = x6 then ((turnpikeref21_Fit.f k (x0.length : Int) x15).bind fun t387 => (if t387 = true then (some (x15, 0)) else (some (([] : List (S33)), 33)))) else (some (([] : List (S33)), 22)))
end
def turnpikeref21_Parse.f (k : Nat) (l0 : List Int) (l1 : List Int) : Option ((List (S33)) × Int) := if (l1.length : Int) < 20 then (some (([] : List (S33)), 22)) else (if 4 ≤ (l1.length : Int) then (if (strOfNums (l1.take 4)).toList = ([84, 80, 68, 49] : List UInt8) then ((turnpikeref13_Get.f k l1 (wrap64 ((l1.length : Int) - 4)) 4).bind fun bt362 => (if 0 ≤ (wrap64 ((l1.length : Int) - 4)) then (if (wrap64 ((l1.length : Int) - 4)) ≤ (l1.length : Int) then ((turnpikeref13_Sum.f k (l1.take ((wrap64 ((l1.length : Int) - 4)) : Int).toNat)).bind fun t365 => (if bt362.1 = t365 then ((turnpikeref13_Get.f k l1 4 4).bind fun bt366 => ((turnpikeref13_Get.f k l1 8 4).bind fun bt368 => (if (wrap64 (bt366.1)) = (l0.length : Int) then ((turnpikeref13_Sum.f k l0).bind fun t370 => (turnpikeref21_Parse.j0 k l0 l1 (wrap64 ((l1.length : Int) - 4)) (bt368.1 != t370))) else (turnpikeref21_Parse.j0 k l0 l1 (wrap64 ((l1.length : Int) - 4)) true)))) else (some (([] : List (S33)), 23)))) else (none)) else (none))) else (some (([] : List (S33)), 21))) else (none))
theorem turnpikeref21_Parse.mono_l : ∀ k, (∀ y0 y1 y2 y3, LeO (turnpikeref21_Parse.j0 k y0 y1 y2 y3) (turnpikeref21_Parse.j0 (k + 1) y0 y1 y2 y3)) ∧ (∀ y0 y1 y2 y3 y4 y5 y6, LeO (turnpikeref21_Parse.l0 k y0 y1 y2 y3 y4 y5 y6) (turnpikeref21_Parse.l0 (k + 1) y0 y1 y2 y3 y4 y5 y6))
  | 0 => ⟨fun _ _ _ _ r h => by simp [turnpikeref21_Parse.j0] at h, fun _ _ _ _ _ _ _ r h => by simp [turnpikeref21_Parse.l0] at h⟩
  | k + 1 => by
    obtain ⟨ih0, ih1⟩ := turnpikeref21_Parse.mono_l k
    refine ⟨?_, ?_⟩
    · intro y0 y1 y2 y3
      unfold turnpikeref21_Parse.j0
      repeat' first
      | (with_reducible exact ih0 _ _ _ _)
      | (with_reducible exact ih1 _ _ _ _ _ _ _)
      | (with_reducible exact turnpikeref13_Get.mono _ _ _ _)
      | (with_reducible exact turnpikeref13_Sum.mono _ _)
      | (with_reducible exact turnpikeref21_Fit.mono _ _ _)
      | (with_reducible exact LeO.refl _)
      | (with_reducible exact LeO.none _)
      | (with_reducible refine LeO.ite ?_ ?_)
      | (with_reducible refine LeO.bind ?_ (fun _ => ?_))
      | exact ih0 _ _ _ _
      | exact ih1 _ _ _ _ _ _ _
      | exact turnpikeref13_Get.mono _ _ _ _
      | exact turnpikeref13_Sum.mono _ _
      | exact turnpikeref21_Fit.mono _ _ _
      | exact LeO.none _
      | refine LeO.ite ?_ ?_
      | refine LeO.bind ?_ (fun _ => ?_)
    · intro y0 y1 y2 y3 y4 y5 y6
      unfold turnpikeref21_Parse.l0
      repeat' first
      | (with_reducible exact ih0 _ _ _ _)
      | (with_reducible exact ih1 _ _ _ _ _ _ _)
      | (with_reducible exact turnpikeref13_Get.mono _ _ _ _)
      | (with_reducible exact turnpikeref13_Sum.mono _ _)
      | (with_reducible exact turnpikeref21_Fit.mono _ _ _)
      | (with_reducible exact LeO.refl _)
      | (with_reducible exact LeO.none _)
      | (with_reducible refine LeO.ite ?_ ?_)
      | (with_reducible refine LeO.bind ?_ (fun _ => ?_))
      | exact ih0 _ _ _ _
      | exact ih1 _ _ _ _ _ _ _
      | exact turnpikeref13_Get.mono _ _ _ _
      | exact turnpikeref13_Sum.mono _ _
      | exact turnpikeref21_Fit.mono _ _ _
      | exact LeO.none _
      | refine LeO.ite ?_ ?_
      | refine LeO.bind ?_ (fun _ => ?_)
theorem turnpikeref21_Parse.mono : ∀ a0 a1 k, LeO (turnpikeref21_Parse.f k a0 a1) (turnpikeref21_Parse.f (k + 1) a0 a1) := by
  intro a0 a1 k
  obtain ⟨ih0, ih1⟩ := turnpikeref21_Parse.mono_l k
  unfold turnpikeref21_Parse.f
  repeat' first
      | (with_reducible exact ih0 _ _ _ _)
      | (with_reducible exact ih1 _ _ _ _ _ _ _)
      | (with_reducible exact turnpikeref13_Get.mono _ _ _ _)
      | (with_reducible exact turnpikeref13_Sum.mono _ _)
      | (with_reducible exact turnpikeref21_Fit.mono _ _ _)
      | (with_reducible exact LeO.refl _)
      | (with_reducible exact LeO.none _)
      | (with_reducible refine LeO.ite ?_ ?_)
      | (with_reducible refine LeO.bind ?_ (fun _ => ?_))
      | exact ih0 _ _ _ _
      | exact ih1 _ _ _ _ _ _ _
      | exact turnpikeref13_Get.mono _ _ _ _
      | exact turnpikeref13_Sum.mono _ _
      | exact turnpikeref21_Fit.mono _ _ _
      | exact LeO.none _
      | refine LeO.ite ?_ ?_
      | refine LeO.bind ?_ (fun _ => ?_)
def turnpikeref21_Parse.T28 : Bool × List (List Nat × List Nat) := (true, [([], []), ([0], [0]), ([], []), ([], []), ([], []), ([], []), ([5], [5]), ([4, 6], [4, 6]), ([2, 3, 7], [2, 3, 7]), ([1, 8], [1, 8]), ([0, 1, 2, 3, 4, 5, 6, 7, 8, 9], []), ([10, 9, 9, 0, 1, 2, 3, 4, 5, 6, 7, 8, 9], [9, 10])])
def turnpikeref21_Parse.B28 : List Nat := [0, 1, 0, 0, 0, 0, 32, 112, 252, 511, 1023, 2047]
theorem turnpikeref21_Parse.tab28 : rtab .any (opsOf Try.f24 28) = turnpikeref21_Parse.T28 := by kernel_rfl
theorem turnpikeref21_Parse.bits28 : waitsOk turnpikeref21_Parse.T28.2 turnpikeref21_Parse.B28 = true := by kernel_rfl
set_option maxHeartbeats 8000000 in
set_option maxRecDepth 100000 in
theorem turnpikeref21_Parse.calls (k : Nat) (A0 : Option Addr) (c0 : Nat) (l0 : List Int) (A1 : Option Addr) (c1 : Nat) (l1 : List Int) (r1 : List (S33)) (r2 : Int) (w : World) (hr0 : Kd.C (Kd.int .u8) w A0 l0.length l0) (hc0 : l0.length ≤ c0) (hr1 : Kd.C (Kd.int .u8) w A1 l1.length l1) (hc1 : l1.length ≤ c1) (h : turnpikeref21_Parse.f k l0 l1 = some (r1, r2)) :
    Calls Try.prog 24 #[.slice A0 l0.length c0, .slice A1 l1.length c1] w fun e w' => ∃ v0_ : Value, e = .returned (.tuple #[v0_, .int .i64 r2]) ∧ Kd.S k33 33 w' w.heap.size (fun _ => True) v0_ r1 ∧ Below w.heap.size w w' := by
  have hu33 := Try.underlying33
  have HR0 := Aside0.mk hr0
  have HC0 := Aside0.mk hc0
  clear hr0 hc0
  have HR1 := Aside0.mk hr1
  have HC1 := Aside0.mk hc1
  clear hr1 hc1
  have HB := Aside0.mk (Below.refl w.heap.size w)
  have H : (if (l1.length : Int) < 20 then (some (([] : List (S33)), 22)) else (if 4 ≤ (l1.length : Int) then (if (strOfNums (l1.take 4)).toList = ([84, 80, 68, 49] : List UInt8) then ((turnpikeref13_Get.f k l1 (wrap64 ((l1.length : Int) - 4)) 4).bind fun bt362 => (if 0 ≤ (wrap64 ((l1.length : Int) - 4)) then (if (wrap64 ((l1.length : Int) - 4)) ≤ (l1.length : Int) then ((turnpikeref13_Sum.f k (l1.take ((wrap64 ((l1.length : Int) - 4)) : Int).toNat)).bind fun t365 => (if bt362.1 = t365 then ((turnpikeref13_Get.f k l1 4 4).bind fun bt366 => ((turnpikeref13_Get.f k l1 8 4).bind fun bt368 => (if (wrap64 (bt366.1)) = (l0.length : Int) then ((turnpikeref13_Sum.f k l0).bind fun t370 => (turnpikeref21_Parse.j0 k l0 l1 (wrap64 ((l1.length : Int) - 4)) (bt368.1 != t370))) else (turnpikeref21_Parse.j0 k l0 l1 (wrap64 ((l1.length : Int) - 4)) true)))) else (some (([] : List (S33)), 23)))) else (none)) else (none))) else (some (([] : List (S33)), 21))) else (none))) = some (r1, r2) := h
  clear h
  by_cases c3 : (l1.length : Int) < 20
  · rw [if_pos c3] at H
    have c3b0 : decide ((l1.length : Int) < 20) = true := decide_eq_true c3
    have c3b1 : decide (l1.length < 20) = true := decide_eq_true (by omega)
    clear c3
    simp only [Option.some.injEq, Prod.mk.injEq] at H
    obtain ⟨rfl, rfl⟩ := H
    go_enter Try.func24, Try.ntmps24
    go_wp2
    go_ret2
    exact ⟨_, by first | rfl | (simp [errW_none, errW_some] <;> rfl) | (simp [*, errW_none, errW_some] <;> rfl), by first | exact Kd.S_nil _ _ _ _ _ | exact Kd.N_nil _ _ _ _ _ | exact Kd.V_nil _ _ _ _ _ | exact Kd.Q_nil _ _ _ _ _ | exact Kd.R_nil _ _ _ _ _, by repeat (first | (with_reducible first | exact HB.out | apply below_alloc | apply pw_below_drewN | apply below_drew1) | exact HB.out)⟩
  · rw [if_neg c3] at H
    have c3b0 : decide ((l1.length : Int) < 20) = false := decide_eq_false c3
    have c3b1 : decide (l1.length < 20) = false := decide_eq_false (by omega)
    clear c3
    by_cases c4 : 4 ≤ (l1.length : Int)
    · rw [if_pos c4] at H
      have c4b0 := eq_true c4
      have c4b1 : decide (4 ≤ (l1.length : Int)) = true := decide_eq_true c4
      clear c4
      by_cases c5 : (strOfNums (l1.take 4)).toList = ([84, 80, 68, 49] : List UInt8)
      · rw [if_pos c5] at H
        have c5b0 : ((strOfNums (l1.take 4)).toList == ([84, 80, 68, 49] : List UInt8)) = true := beq_iff_eq.mpr c5
        have c5b1 : ((strOfNums (l1.take 4)).toList != ([84, 80, 68, 49] : List UInt8)) = false := bne_eq_false_iff_eq.mpr c5
        clear c5
        replace H := Option.bind_eq_some_iff.mp H
        obtain ⟨⟨t362, t363⟩, A60, H⟩ := H
        replace H : (if 0 ≤ (wrap64 ((l1.length : Int) - 4)) then (if (wrap64 ((l1.length : Int) - 4)) ≤ (l1.length : Int) then ((turnpikeref13_Sum.f k (l1.take ((wrap64 ((l1.length : Int) - 4)) : Int).toNat)).bind fun t365 => (if t362 = t365 then ((turnpikeref13_Get.f k l1 4 4).bind fun bt366 => ((turnpikeref13_Get.f k l1 8 4).bind fun bt368 => (if (wrap64 (bt366.1)) = (l0.length : Int) then ((turnpikeref13_Sum.f k l0).bind fun t370 => (turnpikeref21_Parse.j0 k l0 l1 (wrap64 ((l1.length : Int) - 4)) (bt368.1 != t370))) else (turnpikeref21_Parse.j0 k l0 l1 (wrap64 ((l1.length : Int) - 4)) true)))) else (some (([] : List (S33)), 23)))) else (none)) else (none)) = some (r1, r2) := H
        have A6 := Aside0.mk A60
        clear A60
        obtain ⟨ji7, hji7⟩ : ∃ j_ : Int, (wrap64 ((l1.length : Int) - 4)) = j_ := ⟨_, rfl⟩
        replace H : (if 0 ≤ (ji7) then (if (ji7) ≤ (l1.length : Int) then ((turnpikeref13_Sum.f k (l1.take ((ji7) : Int).toNat)).bind fun t365 => (if t362 = t365 then ((turnpikeref13_Get.f k l1 4 4).bind fun bt366 => ((turnpikeref13_Get.f k l1 8 4).bind fun bt368 => (if (wrap64 (bt366.1)) = (l0.length : Int) then ((turnpikeref13_Sum.f k l0).bind fun t370 => (turnpikeref21_Parse.j0 k l0 l1 ji7 (bt368.1 != t370))) else (turnpikeref21_Parse.j0 k l0 l1 ji7 true)))) else (some (([] : List (S33)), 23)))) else (none)) else (none)) = some (r1, r2) := by first | (rw [hji7] at H; exact H) | (simp only [hji7] at H ⊢; exact H)
        (try rw [hji7] at A6)
        have hji7w : (IntKind.i64.wrap ((l1.length : Int) - 4)) = ji7 := (i64_w _).trans hji7
        by_cases c8 : 0 ≤ (ji7)
        · rw [if_pos c8] at H
          have c8b0 := eq_true c8
          have c8b1 : decide (0 ≤ (ji7)) = true := decide_eq_true c8
          clear c8
          by_cases c9 : (ji7) ≤ (l1.length : Int)
          · rw [if_pos c9] at H
            have c9b0 := eq_true c9
            have c9b1 : decide ((ji7) ≤ (l1.length : Int)) = true := decide_eq_true c9
            clear c9
            replace H := Option.bind_eq_some_iff.mp H
            obtain ⟨t365, A100, H⟩ := H
            replace H : (if t362 = t365 then ((turnpikeref13_Get.f k l1 4 4).bind fun bt366 => ((turnpikeref13_Get.f k l1 8 4).bind fun bt368 => (if (wrap64 (bt366.1)) = (l0.length : Int) then ((turnpikeref13_Sum.f k l0).bind fun t370 => (turnpikeref21_Parse.j0 k l0 l1 ji7 (bt368.1 != t370))) else (turnpikeref21_Parse.j0 k l0 l1 ji7 true)))) else (some (([] : List (S33)), 23))) = some (r1, r2) := H
            have A10 := Aside0.mk A100
            clear A100
            by_cases c11 : t362 = t365
            · rw [if_pos c11] at H
              have c11b0 : (t362 == t365) = true := beq_iff_eq.mpr c11
              have c11b1 : (t362 != t365) = false := bne_eq_false_iff_eq.mpr c11
              clear c11
              replace H := Option.bind_eq_some_iff.mp H
              obtain ⟨⟨t366, t367⟩, A120, H⟩ := H
              replace H : ((turnpikeref13_Get.f k l1 8 4).bind fun bt368 => (if (wrap64 (t366)) = (l0.length : Int) then ((turnpikeref13_Sum.f k l0).bind fun t370 => (turnpikeref21_Parse.j0 k l0 l1 ji7 (bt368.1 != t370))) else (turnpikeref21_Parse.j0 k l0 l1 ji7 true))) = some (r1, r2) := H
              have A12 := Aside0.mk A120
              clear A120
              replace H := Option.bind_eq_some_iff.mp H
              obtain ⟨⟨t368, t369⟩, A130, H⟩ := H
              replace H : (if (wrap64 (t366)) = (l0.length : Int) then ((turnpikeref13_Sum.f k l0).bind fun t370 => (turnpikeref21_Parse.j0 k l0 l1 ji7 (t368 != t370))) else (turnpikeref21_Parse.j0 k l0 l1 ji7 true)) = some (r1, r2) := H
              have A13 := Aside0.mk A130
              clear A130
              have HC14 := Aside0.mk H
              clear H
              obtain ⟨i015, hi015, _, hsz15, _⟩ := info_parts info5
              obtain ⟨hcut15, hA15, hC15⟩ := print_take_of (P := Try.prog) (Value.int .u8) 0 22 5 .i64 Try.underlying22 hi015 hsz15 A1 c1 l1 4 (by omega) (of_decide_eq_true (by first | (with_reducible assumption) | assumption)) HC1.out
              have HR361 := Aside0.mk (Kd.C_of_reads (h1 := fun _ => rfl) (hA15 _ (Kd.reads_of_C HR1.out)))
              have HC361 := Aside0.mk hC15
              clear hA15 hC15 hi015 hsz15
              have hcv16 := Kd.C_string (P := Try.prog) (A := A1) (c := c1) Try.underlying22 Try.underlying5 Try.underlying9 HR361.out
              have hcw16 := fun (nq_ : Nat) => Kd.C_string (P := Try.prog) (A := A1) (c := c1) Try.underlying22 Try.underlying5 Try.underlying9 (Kd.C_drewN HR361.out nq_)
              (try simp only [List.length_take, Int.reduceToNat] at hcv16 hcw16)
              go_enter Try.func24, Try.ntmps24
              go_upto_region 11 with (first | ((with_reducible refine gate_callee (f := 35) rfl ?_); refine goesL_ (some 38) rfl rfl Try.func35 (by kernel_rfl) rfl #[.slice A1 l1.length c1, .int .i64 ji7, .int .i64 4] rfl (by (try simp only [List.map_toArray, List.map_cons, List.map_nil]); first | done | (simp only [hji7]; rfl) | rfl | (simp only [List.length_drop, List.length_take]; rfl)) ?_; (with_reducible refine (turnpikeref13_Get.calls k _ _ l1 ji7 4 t362 t363 _ ?side1 ?side2 A6.out).mono ?_); (case side1 => repeat (first | exact HR1.out | (with_reducible refine Kd.C_alloc ?_ _) | (with_reducible refine Kd.C_drewN ?_ _) | (with_reducible refine Kd.C_drew ?_))); (case side2 => exact HC1.out); rintro e w' ⟨rfl, ⟨nd, rfl⟩⟩; refine ⟨_, rfl, ?_⟩; obtain ⟨i017, hi017, _, hsz17, _⟩ := info_parts info5; obtain ⟨hcut17, hA17, hC17⟩ := print_take_of (P := Try.prog) (Value.int .u8) 0 22 5 .i64 Try.underlying22 hi017 hsz17 A1 c1 l1 (ji7) (of_decide_eq_true (by first | (with_reducible assumption) | assumption)) (of_decide_eq_true (by first | (with_reducible assumption) | assumption)) HC1.out; have HR364 := Aside0.mk (Kd.C_of_reads (h1 := fun _ => rfl) (hA17 _ (Kd.reads_of_C HR1.out))); have HC364 := Aside0.mk hC17; clear hA17 hC17 hi017 hsz17) | ((with_reducible refine gate_callee (f := 26) rfl ?_); refine goesL_ (some 45) rfl rfl Try.func26 (by kernel_rfl) rfl #[.slice A1 (l1.take ((ji7) : Int).toNat).length c1] rfl (by (try simp only [List.map_toArray, List.map_cons, List.map_nil]); first | done | (rw [show (l1.take ((ji7) : Int).toNat).length = (ji7).toNat from (by rw [List.length_take]; have h_ : ((ji7) : Int) ≤ (l1.length : Int) := of_decide_eq_true (by first | (with_reducible assumption) | assumption); omega)] <;> rfl) | (simp only [hji7]; rfl) | rfl | (simp only [List.length_drop, List.length_take]; rfl)) ?_; (with_reducible refine (turnpikeref13_Sum.calls k _ _ (l1.take ((ji7) : Int).toNat) t365 _ ?side1 ?side2 A10.out).mono ?_); (case side1 => repeat (first | exact HR364.out | (with_reducible refine Kd.C_alloc ?_ _) | (with_reducible refine Kd.C_drewN ?_ _) | (with_reducible refine Kd.C_drew ?_))); (case side2 => exact HC364.out); rintro e w' ⟨rfl, ⟨nd, rfl⟩⟩; refine ⟨_, rfl, ?_⟩) | ((with_reducible refine gate_callee (f := 35) rfl ?_); refine goesL_ (some 49) rfl rfl Try.func35 (by kernel_rfl) rfl #[.slice A1 l1.length c1, .int .i64 4, .int .i64 4] rfl (by (try simp only [List.map_toArray, List.map_cons, List.map_nil]); first | done | rfl | (simp only [List.length_drop, List.length_take]; rfl)) ?_; (with_reducible refine (turnpikeref13_Get.calls k _ _ l1 4 4 t366 t367 _ ?side1 ?side2 A12.out).mono ?_); (case side1 => repeat (first | exact HR1.out | (with_reducible refine Kd.C_alloc ?_ _) | (with_reducible refine Kd.C_drewN ?_ _) | (with_reducible refine Kd.C_drew ?_))); (case side2 => exact HC1.out); rintro e w' ⟨rfl, ⟨nd, rfl⟩⟩; refine ⟨_, rfl, ?_⟩) | ((with_reducible refine gate_callee (f := 35) rfl ?_); refine goesL_ (some 54) rfl rfl Try.func35 (by kernel_rfl) rfl #[.slice A1 l1.length c1, .int .i64 8, .int .i64 4] rfl (by (try simp only [List.map_toArray, List.map_cons, List.map_nil]); first | done | rfl | (simp only [List.length_drop, List.length_take]; rfl)) ?_; (with_reducible refine (turnpikeref13_Get.calls k _ _ l1 8 4 t368 t369 _ ?side1 ?side2 A13.out).mono ?_); (case side1 => repeat (first | exact HR1.out | (with_reducible refine Kd.C_alloc ?_ _) | (with_reducible refine Kd.C_drewN ?_ _) | (with_reducible refine Kd.C_drew ?_))); (case side2 => exact HC1.out); rintro e w' ⟨rfl, ⟨nd, rfl⟩⟩; refine ⟨_, rfl, ?_⟩))
              (try simp only [Act.put, List.setIfInBounds_toArray, List.set_cons_zero, List.set_cons_succ])
              go_cut [67] (fun v67 wc => ∃ (kq : Nat) (x67_13 : Bool), v67 = .bool x67_13 ∧ Aside0 (turnpikeref21_Parse.j0 kq l0 l1 ji7 x67_13 = some (r1, r2)) ∧ Aside0 (kq ≤ k) ∧ Aside0 (Below w.heap.size w wc))
              case first =>
                have H := HC14.out
                clear HC14
                by_cases c18 : (wrap64 (t366)) = (l0.length : Int)
                · rw [if_pos c18] at H
                  have c18b0 : ((wrap64 (t366)) == (l0.length : Int)) = true := beq_iff_eq.mpr c18
                  have c18b1 : ((wrap64 (t366)) != (l0.length : Int)) = false := bne_eq_false_iff_eq.mpr c18
                  clear c18
                  (first | rw [c18b0] | (simp only [i64_w, i32_w]; rw [c18b0]) | skip)
                  replace H := Option.bind_eq_some_iff.mp H
                  obtain ⟨t370, A190, H⟩ := H
                  replace H : (turnpikeref21_Parse.j0 k l0 l1 ji7 (t368 != t370)) = some (r1, r2) := H
                  have A19 := Aside0.mk A190
                  clear A190
                  have H' := Aside0.mk H
                  clear H
                  go_wp2_with (first | (go_at_call 26; (with_reducible refine (turnpikeref13_Sum.calls k _ _ l0 t370 _ ?side1 ?side2 A19.out).mono ?_); (case side1 => repeat (first | exact (Kd.C_below HR0.out HB.out) | (with_reducible refine Kd.C_alloc ?_ _) | (with_reducible refine Kd.C_drewN ?_ _) | (with_reducible refine Kd.C_drew ?_))); (case side2 => exact HC0.out); rintro e w' ⟨rfl, ⟨nd, rfl⟩⟩))
                  go_meet
                  case rel => exact ⟨_, ((t368 != t370)), (by first | rfl | (simp; done) | (simp [*]; done)), H', ⟨by first | omega | exact Nat.le_refl _⟩, ⟨by repeat (first | (with_reducible first | exact HB.out | apply below_alloc | apply pw_below_drewN | apply below_drew1) | exact HB.out)⟩⟩
                · rw [if_neg c18] at H
                  have c18b0 : ((wrap64 (t366)) == (l0.length : Int)) = false := beq_eq_false_iff_ne.mpr c18
                  have c18b1 : ((wrap64 (t366)) != (l0.length : Int)) = true := bne_iff_ne.mpr c18
                  (first | rw [c18b0] | (simp only [i64_w, i32_w]; rw [c18b0]) | skip)
                  have H' := Aside0.mk H
                  clear H
                  go_wp2
                  go_meet
                  case rel => exact ⟨_, (true), (by first | rfl | (simp; done) | (simp [*]; done)), H', ⟨by first | omega | exact Nat.le_refl _⟩, ⟨by repeat (first | (with_reducible first | exact HB.out | apply below_alloc | apply pw_below_drewN | apply below_drew1) | exact HB.out)⟩⟩
              case rest =>
                clear HC14
                try clear c1
                try clear hcv1
                try clear c2
                try clear p2
                try clear c3
                try clear c3b0
                try clear c3b1
                try clear c4
                try clear c4b0
                try clear c4b1
                try clear c5
                try clear c5b0
                try clear c5b1
                try clear p6
                try clear c8
                try clear c8b0
                try clear c8b1
                try clear c9
                try clear c9b0
                try clear c9b1
                try clear c11
                try clear c11b0
                try clear c11b1
                try clear hcv16
                try clear c18
                try clear c18b0
                try clear c18b1
                obtain ⟨kq, x67_13, rfl, HA, HJ13, HB⟩ := hcut
                cases kq with
                | zero => exact absurd HA.out (by simp [turnpikeref21_Parse.j0])
                | succ kj13 =>
                  have H := HA.out
                  clear HA
                  simp only [turnpikeref21_Parse.j0] at H
                  by_cases c20 : x67_13 = true
                  · subst c20
                    have H1 : (some (([] : List (S33)), 33)) = some (r1, r2) := by rw [if_pos rfl] at H; exact H
                    clear H
                    have H := H1
                    clear H1
                    simp only [Option.some.injEq, Prod.mk.injEq] at H
                    obtain ⟨rfl, rfl⟩ := H
                    go_wp2
                    go_ret2
                    exact ⟨_, by first | rfl | (simp [errW_none, errW_some] <;> rfl) | (simp only [← hji7]; first | rfl | (simp [errW_none, errW_some] <;> rfl)) | (simp [*, errW_none, errW_some] <;> rfl), by first | exact Kd.S_nil _ _ _ _ _ | exact Kd.N_nil _ _ _ _ _ | exact Kd.V_nil _ _ _ _ _ | exact Kd.Q_nil _ _ _ _ _ | exact Kd.R_nil _ _ _ _ _, by repeat (first | (with_reducible first | exact HB.out | apply below_alloc | apply pw_below_drewN | apply below_drew1) | exact HB.out)⟩
                  · replace c20 := Bool.eq_false_iff.mpr c20
                    subst c20
                    have H1 : ((turnpikeref13_Get.f kj13 l1 12 4).bind fun bt371 => (turnpikeref21_Parse.l0 kj13 l0 l1 ji7 bt371.1 ([] : List (S33)) 16 0)) = some (r1, r2) := by rw [if_neg (show ¬ (false = true) by decide)] at H; exact H
                    clear H
                    have H := H1
                    clear H1
                    replace H := Option.bind_eq_some_iff.mp H
                    obtain ⟨⟨t371, t372⟩, A210, H⟩ := H
                    replace H : (turnpikeref21_Parse.l0 kj13 l0 l1 ji7 t371 ([] : List (S33)) 16 0) = some (r1, r2) := H
                    have A21 := Aside0.mk A210
                    clear A210
                    have H' := Aside0.mk H
                    clear H
                    go_wp2_with (first | ((with_reducible refine gate_callee (f := 35) rfl ?_); refine goesL_ (some 70) rfl rfl Try.func35 (by kernel_rfl) rfl #[.slice A1 l1.length c1, .int .i64 12, .int .i64 4] rfl (by (try simp only [List.map_toArray, List.map_cons, List.map_nil]); first | done | rfl | (simp only [List.length_drop, List.length_take]; rfl)) ?_; (with_reducible refine (turnpikeref13_Get.calls kj13 _ _ l1 12 4 t371 t372 _ ?side1 ?side2 A21.out).mono ?_); (case side1 => repeat (first | exact (Kd.C_below HR1.out HB.out) | (with_reducible refine Kd.C_alloc ?_ _) | (with_reducible refine Kd.C_drewN ?_ _) | (with_reducible refine Kd.C_drew ?_))); (case side2 => exact HC1.out); rintro e w' ⟨rfl, ⟨nd, rfl⟩⟩; refine ⟨_, rfl, ?_⟩))
                    go_loopg [15, 16, 17] kj13 (fun kq v15 v16 v17 w' => ∃ (x15_2 : List (S33)) (x16_2 : Int) (x17_2 : Int), v16 = .int .i64 x16_2 ∧ v17 = .int .i64 x17_2 ∧ Aside0 (turnpikeref21_Parse.l0 kq l0 l1 ji7 t371 x15_2 x16_2 x17_2 = some (r1, r2)) ∧ Aside0 (kq ≤ kj13) ∧ Aside0 (Kd.S k33 33 w' w.heap.size (fun _ => True) v15 x15_2) ∧ Aside0 (Below w.heap.size w w'))
                    case atStart => exact ⟨(([] : List (S33))), (16), (0), (by first | rfl | (simp; done) | (simp [*]; done)), (by first | rfl | (simp; done) | (simp [*]; done)), H', ⟨Nat.le_refl _⟩, ⟨by first | exact Kd.S_nil _ _ _ _ _ | exact Kd.N_nil _ _ _ _ _ | exact Kd.V_nil _ _ _ _ _ | exact Kd.Q_nil _ _ _ _ _ | exact Kd.R_nil _ _ _ _ _⟩, ⟨by repeat (first | (with_reducible first | exact HB.out | apply below_alloc | apply pw_below_drewN | apply below_drew1) | exact HB.out)⟩⟩
                    case round =>
                      clear H'
                      try clear c1
                      try clear hcv1
                      try clear c2
                      try clear p2
                      try clear c3
                      try clear c3b0
                      try clear c3b1
                      try clear c4
                      try clear c4b0
                      try clear c4b1
                      try clear c5
                      try clear c5b0
                      try clear c5b1
                      try clear p6
                      try clear c8
                      try clear c8b0
                      try clear c8b1
                      try clear c9
                      try clear c9b0
                      try clear c9b1
                      try clear c11
                      try clear c11b0
                      try clear c11b1
                      try clear hcv16
                      try clear c18
                      try clear c18b0
                      try clear c18b1
                      try clear c20
                      try clear p2
                      try clear p6
                      obtain ⟨x15_2, x16_2, x17_2, rfl, rfl, HA, HK2, HO_15, HB⟩ := hrel
                      cases gk with
                      | zero => exact absurd HA.out (by simp [turnpikeref21_Parse.l0])
                      | succ k2 =>
                        have H := HA.out
                        clear HA
                        simp only [turnpikeref21_Parse.l0] at H
                        by_cases c22 : x17_2 < (wrap64 (t371))
                        · rw [if_pos c22] at H
                          have c22b0 : decide (x17_2 < (wrap64 (t371))) = true := decide_eq_true c22
                          clear c22
                          by_cases c23 : (wrap64 (ji7 - x16_2)) < 12
                          · rw [if_pos c23] at H
                            have c23b0 : decide ((wrap64 (ji7 - x16_2)) < 12) = true := decide_eq_true c23
                            clear c23
                            simp only [Option.some.injEq, Prod.mk.injEq] at H
                            obtain ⟨rfl, rfl⟩ := H
                            go_wp2
                            go_ret2
                            exact ⟨_, by first | rfl | (simp [errW_none, errW_some] <;> rfl) | (simp only [← hji7]; first | rfl | (simp [errW_none, errW_some] <;> rfl)) | (simp [*, errW_none, errW_some] <;> rfl), by first | exact Kd.S_nil _ _ _ _ _ | exact Kd.N_nil _ _ _ _ _ | exact Kd.V_nil _ _ _ _ _ | exact Kd.Q_nil _ _ _ _ _ | exact Kd.R_nil _ _ _ _ _, by repeat (first | (with_reducible first | exact HB.out | apply below_alloc | apply pw_below_drewN | apply below_drew1) | exact HB.out)⟩
                          · rw [if_neg c23] at H
                            have c23b0 : decide ((wrap64 (ji7 - x16_2)) < 12) = false := decide_eq_false c23
                            clear c23
                            replace H := Option.bind_eq_some_iff.mp H
                            obtain ⟨⟨t373, t374⟩, A240, H⟩ := H
                            replace H : ((turnpikeref13_Get.f k2 l1 (wrap64 (x16_2 + 4)) 4).bind fun bt375 => ((turnpikeref13_Get.f k2 l1 (wrap64 (x16_2 + 8)) 4).bind fun bt377 => (if (wrap64 (ji7 - (wrap64 (x16_2 + 12)))) < (wrap64 (bt377.1)) then (some (([] : List (S33)), 22)) else (if 0 ≤ (wrap64 (x16_2 + 12)) then (if (wrap64 (x16_2 + 12)) ≤ (wrap64 ((wrap64 (x16_2 + 12)) + (wrap64 (bt377.1)))) then (if (wrap64 ((wrap64 (x16_2 + 12)) + (wrap64 (bt377.1)))) ≤ (l1.length : Int) then (if ([] : List Int).length + ((l1.take ((wrap64 ((wrap64 (x16_2 + 12)) + (wrap64 (bt377.1)))) : Int).toNat).drop ((wrap64 (x16_2 + 12)) : Int).toNat).length < 140737488355328 then (if x15_2.length < 3518437208883 then (turnpikeref21_Parse.l0 k2 l0 l1 ji7 t371 (x15_2 ++ [(⟨wrap64 (t373), wrap64 (bt375.1), (([] : List Int) ++ ((l1.take ((wrap64 ((wrap64 (x16_2 + 12)) + (wrap64 (bt377.1)))) : Int).toNat).drop ((wrap64 (x16_2 + 12)) : Int).toNat))⟩ : S33)]) (wrap64 ((wrap64 (x16_2 + 12)) + (wrap64 (bt377.1)))) (wrap64 (x17_2 + 1))) else (none)) else (none)) else (none)) else (none)) else (none))))) = some (r1, r2) := H
                            have A24 := Aside0.mk A240
                            clear A240
                            replace H := Option.bind_eq_some_iff.mp H
                            obtain ⟨⟨t375, t376⟩, A250, H⟩ := H
                            replace H : ((turnpikeref13_Get.f k2 l1 (wrap64 (x16_2 + 8)) 4).bind fun bt377 => (if (wrap64 (ji7 - (wrap64 (x16_2 + 12)))) < (wrap64 (bt377.1)) then (some (([] : List (S33)), 22)) else (if 0 ≤ (wrap64 (x16_2 + 12)) then (if (wrap64 (x16_2 + 12)) ≤ (wrap64 ((wrap64 (x16_2 + 12)) + (wrap64 (bt377.1)))) then (if (wrap64 ((wrap64 (x16_2 + 12)) + (wrap64 (bt377.1)))) ≤ (l1.length : Int) then (if ([] : List Int).length + ((l1.take ((wrap64 ((wrap64 (x16_2 + 12)) + (wrap64 (bt377.1)))) : Int).toNat).drop ((wrap64 (x16_2 + 12)) : Int).toNat).length < 140737488355328 then (if x15_2.length < 3518437208883 then (turnpikeref21_Parse.l0 k2 l0 l1 ji7 t371 (x15_2 ++ [(⟨wrap64 (t373), wrap64 (t375), (([] : List Int) ++ ((l1.take ((wrap64 ((wrap64 (x16_2 + 12)) + (wrap64 (bt377.1)))) : Int).toNat).drop ((wrap64 (x16_2 + 12)) : Int).toNat))⟩ : S33)]) (wrap64 ((wrap64 (x16_2 + 12)) + (wrap64 (bt377.1)))) (wrap64 (x17_2 + 1))) else (none)) else (none)) else (none)) else (none)) else (none)))) = some (r1, r2) := H
                            have A25 := Aside0.mk A250
                            clear A250
                            replace H := Option.bind_eq_some_iff.mp H
                            obtain ⟨⟨t377, t378⟩, A260, H⟩ := H
                            replace H : (if (wrap64 (ji7 - (wrap64 (x16_2 + 12)))) < (wrap64 (t377)) then (some (([] : List (S33)), 22)) else (if 0 ≤ (wrap64 (x16_2 + 12)) then (if (wrap64 (x16_2 + 12)) ≤ (wrap64 ((wrap64 (x16_2 + 12)) + (wrap64 (t377)))) then (if (wrap64 ((wrap64 (x16_2 + 12)) + (wrap64 (t377)))) ≤ (l1.length : Int) then (if ([] : List Int).length + ((l1.take ((wrap64 ((wrap64 (x16_2 + 12)) + (wrap64 (t377)))) : Int).toNat).drop ((wrap64 (x16_2 + 12)) : Int).toNat).length < 140737488355328 then (if x15_2.length < 3518437208883 then (turnpikeref21_Parse.l0 k2 l0 l1 ji7 t371 (x15_2 ++ [(⟨wrap64 (t373), wrap64 (t375), (([] : List Int) ++ ((l1.take ((wrap64 ((wrap64 (x16_2 + 12)) + (wrap64 (t377)))) : Int).toNat).drop ((wrap64 (x16_2 + 12)) : Int).toNat))⟩ : S33)]) (wrap64 ((wrap64 (x16_2 + 12)) + (wrap64 (t377)))) (wrap64 (x17_2 + 1))) else (none)) else (none)) else (none)) else (none)) else (none))) = some (r1, r2) := H
                            have A26 := Aside0.mk A260
                            clear A260
                            by_cases c27 : (wrap64 (ji7 - (wrap64 (x16_2 + 12)))) < (wrap64 (t377))
                            · rw [if_pos c27] at H
                              have c27b0 : decide ((wrap64 (ji7 - (wrap64 (x16_2 + 12)))) < (wrap64 (t377))) = true := decide_eq_true c27
                              clear c27
                              simp only [Option.some.injEq, Prod.mk.injEq] at H
                              obtain ⟨rfl, rfl⟩ := H
                              go_wp2_with (first | ((with_reducible refine gate_callee (f := 35) rfl ?_); refine goesL_ (some 86) rfl rfl Try.func35 (by kernel_rfl) rfl #[.slice A1 l1.length c1, .int .i64 x16_2, .int .i64 4] rfl (by (try simp only [List.map_toArray, List.map_cons, List.map_nil]); first | done | rfl | (simp only [List.length_drop, List.length_take]; rfl)) ?_; (with_reducible refine (turnpikeref13_Get.calls k2 _ _ l1 x16_2 4 t373 t374 _ ?side1 ?side2 A24.out).mono ?_); (case side1 => repeat (first | exact (Kd.C_below HR1.out HB.out) | (with_reducible refine Kd.C_alloc ?_ _) | (with_reducible refine Kd.C_drewN ?_ _) | (with_reducible refine Kd.C_drew ?_))); (case side2 => exact HC1.out); rintro e w' ⟨rfl, ⟨nd, rfl⟩⟩; refine ⟨_, rfl, ?_⟩) | ((with_reducible refine gate_callee (f := 35) rfl ?_); refine goesL_ (some 93) rfl rfl Try.func35 (by kernel_rfl) rfl #[.slice A1 l1.length c1, .int .i64 (wrap64 (x16_2 + 4)), .int .i64 4] rfl (by (try simp only [List.map_toArray, List.map_cons, List.map_nil]); first | done | rfl | (simp only [List.length_drop, List.length_take]; rfl)) ?_; (with_reducible refine (turnpikeref13_Get.calls k2 _ _ l1 (wrap64 (x16_2 + 4)) 4 t375 t376 _ ?side1 ?side2 A25.out).mono ?_); (case side1 => repeat (first | exact (Kd.C_below HR1.out (by repeat (first | (with_reducible first | exact HB.out | apply below_alloc | apply pw_below_drewN | apply below_drew1) | exact HB.out))) | (with_reducible refine Kd.C_alloc ?_ _) | (with_reducible refine Kd.C_drewN ?_ _) | (with_reducible refine Kd.C_drew ?_))); (case side2 => exact HC1.out); rintro e w' ⟨rfl, ⟨nd, rfl⟩⟩; refine ⟨_, rfl, ?_⟩) | ((with_reducible refine gate_callee (f := 35) rfl ?_); refine goesL_ (some 100) rfl rfl Try.func35 (by kernel_rfl) rfl #[.slice A1 l1.length c1, .int .i64 (wrap64 (x16_2 + 8)), .int .i64 4] rfl (by (try simp only [List.map_toArray, List.map_cons, List.map_nil]); first | done | rfl | (simp only [List.length_drop, List.length_take]; rfl)) ?_; (with_reducible refine (turnpikeref13_Get.calls k2 _ _ l1 (wrap64 (x16_2 + 8)) 4 t377 t378 _ ?side1 ?side2 A26.out).mono ?_); (case side1 => repeat (first | exact (Kd.C_below HR1.out (by repeat (first | (with_reducible first | exact HB.out | apply below_alloc | apply pw_below_drewN | apply below_drew1) | exact HB.out))) | (with_reducible refine Kd.C_alloc ?_ _) | (with_reducible refine Kd.C_drewN ?_ _) | (with_reducible refine Kd.C_drew ?_))); (case side2 => exact HC1.out); rintro e w' ⟨rfl, ⟨nd, rfl⟩⟩; refine ⟨_, rfl, ?_⟩))
                              go_ret2
                              exact ⟨_, by first | rfl | (simp [errW_none, errW_some] <;> rfl) | (simp only [← hji7]; first | rfl | (simp [errW_none, errW_some] <;> rfl)) | (simp [*, errW_none, errW_some] <;> rfl), by first | exact Kd.S_nil _ _ _ _ _ | exact Kd.N_nil _ _ _ _ _ | exact Kd.V_nil _ _ _ _ _ | exact Kd.Q_nil _ _ _ _ _ | exact Kd.R_nil _ _ _ _ _, by repeat (first | (with_reducible first | exact HB.out | apply below_alloc | apply pw_below_drewN | apply below_drew1) | exact HB.out)⟩
                            · rw [if_neg c27] at H
                              have c27b0 : decide ((wrap64 (ji7 - (wrap64 (x16_2 + 12)))) < (wrap64 (t377))) = false := decide_eq_false c27
                              clear c27
                              obtain ⟨ji28, hji28⟩ : ∃ j_ : Int, (wrap64 (x16_2 + 12)) = j_ := ⟨_, rfl⟩
                              replace H : (if 0 ≤ (ji28) then (if (ji28) ≤ (wrap64 ((ji28) + (wrap64 (t377)))) then (if (wrap64 ((ji28) + (wrap64 (t377)))) ≤ (l1.length : Int) then (if ([] : List Int).length + ((l1.take ((wrap64 ((ji28) + (wrap64 (t377)))) : Int).toNat).drop ((ji28) : Int).toNat).length < 140737488355328 then (if x15_2.length < 3518437208883 then (turnpikeref21_Parse.l0 k2 l0 l1 ji7 t371 (x15_2 ++ [(⟨wrap64 (t373), wrap64 (t375), (([] : List Int) ++ ((l1.take ((wrap64 ((ji28) + (wrap64 (t377)))) : Int).toNat).drop ((ji28) : Int).toNat))⟩ : S33)]) (wrap64 ((ji28) + (wrap64 (t377)))) (wrap64 (x17_2 + 1))) else (none)) else (none)) else (none)) else (none)) else (none)) = some (r1, r2) := by first | (rw [hji28] at H; exact H) | (simp only [hji28] at H ⊢; exact H)
                              (try rw [hji28] at c27b0)
                              (try rw [hji28] at A24)
                              (try rw [hji28] at A25)
                              (try rw [hji28] at A26)
                              have hji28w : (IntKind.i64.wrap (x16_2 + 12)) = ji28 := (i64_w _).trans hji28
                              by_cases c29 : 0 ≤ (ji28)
                              · rw [if_pos c29] at H
                                have c29b0 := eq_true c29
                                have c29b1 : decide (0 ≤ (ji28)) = true := decide_eq_true c29
                                clear c29
                                by_cases c30 : (ji28) ≤ (wrap64 ((ji28) + (wrap64 (t377))))
                                · rw [if_pos c30] at H
                                  have c30b0 := eq_true c30
                                  have c30b1 : decide ((ji28) ≤ (wrap64 ((ji28) + (wrap64 (t377))))) = true := decide_eq_true c30
                                  by_cases c31 : (wrap64 ((ji28) + (wrap64 (t377)))) ≤ (l1.length : Int)
                                  · rw [if_pos c31] at H
                                    have c31b0 := eq_true c31
                                    have c31b1 : decide ((wrap64 ((ji28) + (wrap64 (t377)))) ≤ (l1.length : Int)) = true := decide_eq_true c31
                                    by_cases c32 : ([] : List Int).length + ((l1.take ((wrap64 ((ji28) + (wrap64 (t377)))) : Int).toNat).drop ((ji28) : Int).toNat).length < 140737488355328
                                    · rw [if_pos c32] at H
                                      have LMc32 := Aside0.mk c32
                                      clear c32
                                      obtain ⟨y381, hy381⟩ : ∃ y_ : List Int, y_ = (([] : List Int) ++ ((l1.take ((wrap64 ((ji28) + (wrap64 (t377)))) : Int).toNat).drop ((ji28) : Int).toNat)) := ⟨_, rfl⟩
                                      replace H : (if x15_2.length < 3518437208883 then (turnpikeref21_Parse.l0 k2 l0 l1 ji7 t371 (x15_2 ++ [(⟨wrap64 (t373), wrap64 (t375), y381⟩ : S33)]) (wrap64 ((ji28) + (wrap64 (t377)))) (wrap64 (x17_2 + 1))) else (none)) = some (r1, r2) := by first | (rw [hy381]; with_reducible exact H) | (have H2_ := (Option.bind_some _ _).symm.trans H; rw [hy381]; with_reducible exact H2_) | (have H2_ := (Option.bind_some _ _).symm.trans H; with_reducible exact H2_) | with_reducible exact H | (rw [hy381]; exact H) | exact H
                                      have Ny381 := Aside0.mk hy381
                                      clear hy381
                                      by_cases c33 : x15_2.length < 3518437208883
                                      · rw [if_pos c33] at H
                                        have LMc33 := Aside0.mk c33
                                        clear c33
                                        obtain ⟨y384, hy384⟩ : ∃ y_ : List (S33), y_ = (x15_2 ++ [(⟨wrap64 (t373), wrap64 (t375), y381⟩ : S33)]) := ⟨_, rfl⟩
                                        replace H : (turnpikeref21_Parse.l0 k2 l0 l1 ji7 t371 y384 (wrap64 ((ji28) + (wrap64 (t377)))) (wrap64 (x17_2 + 1))) = some (r1, r2) := by first | (rw [hy384]; with_reducible exact H) | (have H2_ := (Option.bind_some _ _).symm.trans H; rw [hy384]; with_reducible exact H2_) | (have H2_ := (Option.bind_some _ _).symm.trans H; with_reducible exact H2_) | with_reducible exact H | (rw [hy384]; exact H) | exact H
                                        have Ny384 := Aside0.mk hy384
                                        clear hy384
                                        have H' := Aside0.mk H
                                        clear H
                                        try go_wp2_with (first | ((with_reducible refine gate_callee (f := 35) rfl ?_); refine goesL_ (some 86) rfl rfl Try.func35 (by kernel_rfl) rfl #[.slice A1 l1.length c1, .int .i64 x16_2, .int .i64 4] rfl (by (try simp only [List.map_toArray, List.map_cons, List.map_nil]); first | done | rfl | (simp only [List.length_drop, List.length_take]; rfl)) ?_; (with_reducible refine (turnpikeref13_Get.calls k2 _ _ l1 x16_2 4 t373 t374 _ ?side1 ?side2 A24.out).mono ?_); (case side1 => repeat (first | exact (Kd.C_below HR1.out HB.out) | (with_reducible refine Kd.C_alloc ?_ _) | (with_reducible refine Kd.C_drewN ?_ _) | (with_reducible refine Kd.C_drew ?_))); (case side2 => exact HC1.out); rintro e w' ⟨rfl, ⟨nd, rfl⟩⟩; refine ⟨_, rfl, ?_⟩; (try (rw [drewN_self wr]; generalize hq_ : World.drewN wr _ = wr; have n0_ : Aside0 (Kd.S k33 33 wr w.heap.size (fun _ => True) u15 x15_2) := ⟨by rw [← hq_]; exact (by (with_reducible repeat (first | apply Kd.S_alloc | apply Kd.S_drewN | apply Kd.S_drew)); exact HO_15.out)⟩; have n1_ : Aside0 (Below w.heap.size w wr) := ⟨by rw [← hq_]; exact (by repeat (first | (with_reducible first | exact HB.out | apply below_alloc | apply pw_below_drewN | apply below_drew1) | exact HB.out))⟩; clear HO_15 HB hq_; have HO_15 := n0_; have HB := n1_; clear n0_ n1_))) | ((with_reducible refine gate_callee (f := 35) rfl ?_); refine goesL_ (some 93) rfl rfl Try.func35 (by kernel_rfl) rfl #[.slice A1 l1.length c1, .int .i64 (wrap64 (x16_2 + 4)), .int .i64 4] rfl (by (try simp only [List.map_toArray, List.map_cons, List.map_nil]); first | done | rfl | (simp only [List.length_drop, List.length_take]; rfl)) ?_; (with_reducible refine (turnpikeref13_Get.calls k2 _ _ l1 (wrap64 (x16_2 + 4)) 4 t375 t376 _ ?side1 ?side2 A25.out).mono ?_); (case side1 => repeat (first | exact (Kd.C_below HR1.out HB.out) | (with_reducible refine Kd.C_alloc ?_ _) | (with_reducible refine Kd.C_drewN ?_ _) | (with_reducible refine Kd.C_drew ?_))); (case side2 => exact HC1.out); rintro e w' ⟨rfl, ⟨nd, rfl⟩⟩; refine ⟨_, rfl, ?_⟩; (try (rw [drewN_self wr]; generalize hq_ : World.drewN wr _ = wr; have n0_ : Aside0 (Kd.S k33 33 wr w.heap.size (fun _ => True) u15 x15_2) := ⟨by rw [← hq_]; exact (by (with_reducible repeat (first | apply Kd.S_alloc | apply Kd.S_drewN | apply Kd.S_drew)); exact HO_15.out)⟩; have n1_ : Aside0 (Below w.heap.size w wr) := ⟨by rw [← hq_]; exact (by repeat (first | (with_reducible first | exact HB.out | apply below_alloc | apply pw_below_drewN | apply below_drew1) | exact HB.out))⟩; clear HO_15 HB hq_; have HO_15 := n0_; have HB := n1_; clear n0_ n1_))) | ((with_reducible refine gate_callee (f := 35) rfl ?_); refine goesL_ (some 100) rfl rfl Try.func35 (by kernel_rfl) rfl #[.slice A1 l1.length c1, .int .i64 (wrap64 (x16_2 + 8)), .int .i64 4] rfl (by (try simp only [List.map_toArray, List.map_cons, List.map_nil]); first | done | rfl | (simp only [List.length_drop, List.length_take]; rfl)) ?_; (with_reducible refine (turnpikeref13_Get.calls k2 _ _ l1 (wrap64 (x16_2 + 8)) 4 t377 t378 _ ?side1 ?side2 A26.out).mono ?_); (case side1 => repeat (first | exact (Kd.C_below HR1.out HB.out) | (with_reducible refine Kd.C_alloc ?_ _) | (with_reducible refine Kd.C_drewN ?_ _) | (with_reducible refine Kd.C_drew ?_))); (case side2 => exact HC1.out); rintro e w' ⟨rfl, ⟨nd, rfl⟩⟩; refine ⟨_, rfl, ?_⟩; (try (rw [drewN_self wr]; generalize hq_ : World.drewN wr _ = wr; have n0_ : Aside0 (Kd.S k33 33 wr w.heap.size (fun _ => True) u15 x15_2) := ⟨by rw [← hq_]; exact (by (with_reducible repeat (first | apply Kd.S_alloc | apply Kd.S_drewN | apply Kd.S_drew)); exact HO_15.out)⟩; have n1_ : Aside0 (Below w.heap.size w wr) := ⟨by rw [← hq_]; exact (by repeat (first | (with_reducible first | exact HB.out | apply below_alloc | apply pw_below_drewN | apply below_drew1) | exact HB.out))⟩; clear HO_15 HB hq_; have HO_15 := n0_; have HB := n1_; clear n0_ n1_))) | ((with_reducible refine gate_dst (N := 24) rfl ?_); refine box_event ?hg (N := 24) ?hd (cs := #[.int .i64 0, .int .i64 0, .slice none 0 0]) (t := 33) ?hr ?_; (case hd => rfl); (case hg => rfl); (case hr => first | (go_simp; done) | (go_simp; rfl)); intro gb379 hg w34 hbox hb; have n0_ := Aside0.mk (Kd.S_below (Kd.S_elderB (by (with_reducible repeat (first | apply Kd.S_alloc | apply Kd.S_drewN | apply Kd.S_drew)); exact HO_15.out) gb379 (Nat.le_of_eq hg.symm)) hb); have n1_ := Aside0.mk (below_step (by repeat (first | (with_reducible first | exact HB.out | apply below_alloc | apply pw_below_drewN | apply below_drew1) | exact HB.out)) hb); have n2_ := Aside0.mk (hbox); have n3_ := Aside0.mk ((by rw [hg]; exact (below_size (by repeat (first | (with_reducible first | exact HB.out | apply below_alloc | apply pw_below_drewN | apply below_drew1) | exact HB.out))) : w.heap.size ≤ gb379)); have n4_ := Aside0.mk ((by rw [hg]; exact (below_size (by repeat (first | (with_reducible first | exact HB.out | apply below_alloc | apply pw_below_drewN | apply below_drew1) | exact HB.out))) : w.heap.size ≤ gb379)); clear HO_15; clear HB; have HO_15 := n0_; have HB := n1_; have BK379 := n2_; have GW379 := n3_; have GE379 := n4_; clear n0_ n1_ n2_ n3_ n4_; clear hb hbox hg; have hcz35_0 : w34.cell? ⟨gb379, 0, none⟩ = some (.int .i64 0) := (blk_cell BK379.out 0).trans rfl; have hcz35_1 : w34.cell? ⟨gb379, 1, none⟩ = some (.int .i64 0) := (blk_cell BK379.out 1).trans rfl; have hcz35_2 : w34.cell? ⟨gb379, 2, none⟩ = some (.slice none 0 0) := (blk_cell BK379.out 2).trans rfl; have hfz35_0 := blk_frozen BK379.out 0; have hfz35_1 := blk_frozen BK379.out 1; have hfz35_2 := blk_frozen BK379.out 2))
                                        have n0_ : Aside0 (Kd.S k33 33 (((w34.setCell ⟨gb379, 0, none⟩ (.int .i64 (wrap64 (t373)))).setCell ⟨gb379, 1, none⟩ (.int .i64 (wrap64 (t375)))).setCell ⟨gb379, 2, none⟩ (.slice none 0 0)) w.heap.size (fun k_ => k_ ≠ gb379) u15 x15_2) := ⟨by (with_reducible repeat (first | apply Kd.S_alloc | apply Kd.S_drewN | apply Kd.S_drew)); exact Kd.S_mono (Kd.S_far (p := ⟨gb379, 2, none⟩) (Kd.S_far (p := ⟨gb379, 1, none⟩) (Kd.S_far (p := ⟨gb379, 0, none⟩) (Kd.S_mono HO_15.out (fun k_ hk => (⟨hk, hk.2⟩ : _ ∧ k_ ≠ gb379))) (fun _ hk => hk.2) (.int .i64 (wrap64 (t373)))) (fun _ hk => hk.2) (.int .i64 (wrap64 (t375)))) (fun _ hk => hk.2) (.slice none 0 0)) (fun _ hk => hk.1.2)⟩
                                        have n1_ : Aside0 ((((w34.setCell ⟨gb379, 0, none⟩ (.int .i64 (wrap64 (t373)))).setCell ⟨gb379, 1, none⟩ (.int .i64 (wrap64 (t375)))).setCell ⟨gb379, 2, none⟩ (.slice none 0 0)).heap[gb379]? = some (.cells #[.int .i64 (wrap64 (t373)), .int .i64 (wrap64 (t375)), .slice none 0 0] 33 (0, 0))) := ⟨by (with_reducible repeat (first | refine blk_drewN ?_ _ | refine blk_drew ?_ | refine blk_alloc ?_ _)); refine blk_put (cs := #[.int .i64 (wrap64 (t373)), .int .i64 (wrap64 (t375)), .slice none 0 0]) ?_ 2 _ rfl; (with_reducible repeat (first | refine blk_drewN ?_ _ | refine blk_drew ?_ | refine blk_alloc ?_ _)); refine blk_put (cs := #[.int .i64 (wrap64 (t373)), .int .i64 0, .slice none 0 0]) ?_ 1 _ rfl; (with_reducible repeat (first | refine blk_drewN ?_ _ | refine blk_drew ?_ | refine blk_alloc ?_ _)); refine blk_put (cs := #[.int .i64 0, .int .i64 0, .slice none 0 0]) ?_ 0 _ rfl; (with_reducible repeat (first | refine blk_drewN ?_ _ | refine blk_drew ?_ | refine blk_alloc ?_ _)); exact BK379.out⟩
                                        have n2_ : Aside0 (Below w.heap.size w (((w34.setCell ⟨gb379, 0, none⟩ (.int .i64 (wrap64 (t373)))).setCell ⟨gb379, 1, none⟩ (.int .i64 (wrap64 (t375)))).setCell ⟨gb379, 2, none⟩ (.slice none 0 0))) := ⟨by repeat (first | (with_reducible first | exact HB.out | apply below_alloc | apply pw_below_drewN | apply below_drew1 | refine below_set ?_ GE379.out) | exact HB.out)⟩
                                        (try clear HO_15)
                                        (try clear BK379)
                                        (try clear HB)
                                        generalize (((w34.setCell ⟨gb379, 0, none⟩ (.int .i64 (wrap64 (t373)))).setCell ⟨gb379, 1, none⟩ (.int .i64 (wrap64 (t375)))).setCell ⟨gb379, 2, none⟩ (.slice none 0 0)) = w36 at n0_ n1_ n2_ ⊢
                                        have HO_15 := n0_
                                        have BK379 := n1_
                                        have HB := n2_
                                        clear n0_ n1_ n2_
                                        have n0_ := Aside0.mk (Kd.S_drew HO_15.out)
                                        have n1_ := Aside0.mk (blk_drew BK379.out)
                                        have n2_ := Aside0.mk (below_drew1 HB.out)
                                        clear HO_15
                                        clear BK379
                                        clear HB
                                        have HO_15 := n0_
                                        have BK379 := n1_
                                        have HB := n2_
                                        clear n0_ n1_ n2_
                                        obtain ⟨i038, hi038, _, hsz38, _⟩ := info_parts info5
                                        obtain ⟨A38, hcut38, hA38, hC38⟩ := print_mid_of (P := Try.prog) (Value.int .u8) 0 22 5 .i64 .i64 Try.underlying22 hi038 hsz38 A1 c1 l1 (ji28) (wrap64 ((ji28) + (wrap64 (t377)))) (of_decide_eq_true (by first | (with_reducible assumption) | assumption)) (by first | omega | exact of_decide_eq_true (by first | (with_reducible assumption) | assumption)) (of_decide_eq_true (by first | (with_reducible assumption) | assumption)) HC1.out
                                        have HR380 := Aside0.mk (Kd.C_of_reads (h1 := fun _ => rfl) (hA38 _ (Kd.reads_of_C HR1.out)))
                                        have HC380 := Aside0.mk hC38
                                        clear hA38 hC38 hi038 hsz38
                                        refine start_ (n := 12) (S := fun w' => w'.cell? ⟨gb379, 0, none⟩ = some (.int .i64 (wrap64 (t373))) ∧ w'.cell? ⟨gb379, 1, none⟩ = some (.int .i64 (wrap64 (t375))) ∧ w'.cell? ⟨gb379, 2, none⟩ = some (.slice none 0 0)) (ds := [11]) #[false, false, false, false, false, false, false, false, false, false, false, false] (by kernel_rfl) rfl rfl ⟨(blk_cell BK379.out 0).trans rfl, (blk_cell BK379.out 1).trans rfl, (blk_cell BK379.out 2).trans rfl⟩ (fun hHeld => ?_); refine with_tabW turnpikeref21_Parse.tab28 turnpikeref21_Parse.bits28 (fun HT_ HW_ => ?_)
                                        generalize w36.drew = w37 at HO_15 BK379 HB HR380 hHeld ⊢
                                        refine pure_ (i := 0) (N := some 116) (v := ?_) (a' := ?_) #[true, false, false, false, false, false, false, false, false, false, false, false] rfl rfl (any_of HT_.out (by kernel_rfl)) (fun _ _ _ h => h) (Or.inl ⟨by rfl, ?_⟩) ?_ ?_
                                        rotate_left
                                        · intro w'
                                          go_simp
                                          with_reducible rfl
                                        rotate_left
                                        · simp only [Act.put, List.setIfInBounds_toArray, List.set_cons_zero, List.set_cons_succ, i64_w, i32_w]
                                          rfl
                                        refine pure_ (i := 2) (N := some 118) (v := ?_) (a' := ?_) #[true, false, true, false, false, false, false, false, false, false, false, false] rfl rfl (any_of HT_.out (by kernel_rfl)) (fun _ _ _ h => h) (Or.inl ⟨by rfl, ?_⟩) ?_ ?_
                                        rotate_left
                                        · intro w'
                                          go_simp
                                          with_reducible rfl
                                        rotate_left
                                        · simp only [Act.put, List.setIfInBounds_toArray, List.set_cons_zero, List.set_cons_succ, i64_w, i32_w]
                                          rfl
                                        refine pure_ (i := 3) (N := some 119) (v := ?_) (a' := ?_) #[true, false, true, true, false, false, false, false, false, false, false, false] rfl rfl (any_of HT_.out (by kernel_rfl)) (fun _ _ _ h => h) (Or.inl ⟨by rfl, ?_⟩) ?_ ?_
                                        rotate_left
                                        · intro w'
                                          go_simp
                                          with_reducible rfl
                                        rotate_left
                                        · simp only [Act.put, List.setIfInBounds_toArray, List.set_cons_zero, List.set_cons_succ, i64_w, i32_w]
                                          rfl
                                        refine pure_ (i := 4) (N := some 120) (v := ?_) (a' := ?_) #[true, false, true, true, true, false, false, false, false, false, false, false] rfl rfl (any_of HT_.out (by kernel_rfl)) (fun _ _ _ h => h) (Or.inl ⟨by rfl, ?_⟩) ?_ ?_
                                        rotate_left
                                        · intro w'
                                          go_simp
                                          with_reducible rfl
                                        rotate_left
                                        · simp only [Act.put, List.setIfInBounds_toArray, List.set_cons_zero, List.set_cons_succ, i64_w, i32_w]
                                          rfl
                                        refine pure_ (i := 5) (N := some 121) (v := ?_) (a' := ?_) #[true, false, true, true, true, true, false, false, false, false, false, false] rfl rfl (any_of HT_.out (by kernel_rfl)) (fun _ _ _ h => h) (Or.inl ⟨by rfl, ?_⟩) ?_ ?_
                                        rotate_left
                                        · intro w'
                                          go_simp
                                          with_reducible rfl
                                        rotate_left
                                        · simp only [Act.put, List.setIfInBounds_toArray, List.set_cons_zero, List.set_cons_succ, i64_w, i32_w]
                                          rfl
                                        refine pure_ (i := 6) (N := some 122) (v := ?_) (a' := ?_) #[true, false, true, true, true, true, true, false, false, false, false, false] rfl rfl (any_of HT_.out (by kernel_rfl)) (fun _ _ _ h => h) (Or.inl ⟨by rfl, ?_⟩) ?_ ?_
                                        rotate_left
                                        · intro w'
                                          go_simp
                                          with_reducible rfl
                                        rotate_left
                                        · simp only [Act.put, List.setIfInBounds_toArray, List.set_cons_zero, List.set_cons_succ, i64_w, i32_w]
                                          rfl
                                        refine pure_ (i := 7) (N := some 123) (v := ?_) (a' := ?_) #[true, false, true, true, true, true, true, true, false, false, false, false] rfl rfl (any_of HT_.out (by kernel_rfl)) (fun _ _ _ h => h) (Or.inl ⟨by rfl, ?_⟩) ?_ ?_
                                        rotate_left
                                        · intro w'
                                          go_simp
                                          with_reducible rfl
                                        rotate_left
                                        · simp only [Act.put, List.setIfInBounds_toArray, List.set_cons_zero, List.set_cons_succ, i64_w, i32_w]
                                          rfl
                                        refine pure_ (i := 8) (N := some 124) (v := ?_) (a' := ?_) #[true, false, true, true, true, true, true, true, true, false, false, false] rfl rfl (any_of HT_.out (by kernel_rfl)) (fun _ _ _ h => h) (Or.inl ⟨by rfl, ?_⟩) ?_ ?_
                                        rotate_left
                                        · intro w'
                                          go_simp
                                          with_reducible rfl
                                        rotate_left
                                        · simp only [Act.put, List.setIfInBounds_toArray, List.set_cons_zero, List.set_cons_succ, i64_w, i32_w]
                                          rfl
                                        refine take_ (i := 1) (N := some 117) (v := ?_) (a' := ?_) #[true, true, true, true, true, true, true, true, true, false, false, false] rfl rfl (take_ofW HT_.out HW_.out (by kernel_rfl)) (fun _ _ _ h => h) (Or.inl ⟨by rfl, ?_⟩) hHeld ?_ ?_
                                        rotate_left
                                        · rintro w' ⟨s0, s1, s2⟩
                                          go_simp
                                          with_reducible rfl
                                        rotate_left
                                        · simp only [Act.put, List.setIfInBounds_toArray, List.set_cons_zero, List.set_cons_succ, i64_w, i32_w]
                                          rfl
                                        refine one_ (i := 9) (N := some 125) #[true, true, true, true, true, true, true, true, true, true, false, false] rfl rfl (one_of HT_.out (by kernel_rfl)) (by decide) (fun K hK => ?_)
                                        refine Kd.R_append_rows_step (Kd.int .u8) (w0 := w) w.heap.size (by rfl) (.tmp 117) (.tmp 124) 22 5 (.int .u8 0) 1 rfl Try.underlying22 info5 rfl (by decide) (by omega) (.slice none 0 0) ([] : List Int) ((l1.take ((wrap64 ((ji28) + (wrap64 (t377)))) : Int).toNat).drop ((ji28) : Int).toNat) _ _ _ (fun _ => True) (fun _ => False) rfl rfl ?aO ?aR (fun _ _ h => h) (fun _ h => h.elim) ?aF ?aB ?aS ?aL ?_
                                        (case aR => first | (rw [← show ((l1.take ((wrap64 ((ji28) + (wrap64 (t377)))) : Int).toNat).drop ((ji28) : Int).toNat).length = ((wrap64 ((ji28) + (wrap64 (t377)))).toNat - (ji28).toNat) from (by rw [List.length_drop, List.length_take]; have h_ : ((wrap64 ((ji28) + (wrap64 (t377)))) : Int) ≤ (l1.length : Int) := of_decide_eq_true (by first | (with_reducible assumption) | assumption); omega)]; repeat (first | exact (Kd.C_below HR380.out HB.out) | (with_reducible refine Kd.C_alloc ?_ _) | (with_reducible refine Kd.C_drewN ?_ _) | (with_reducible refine Kd.C_drew ?_))) | (repeat (first | exact (Kd.C_below HR380.out HB.out) | (with_reducible refine Kd.C_alloc ?_ _) | (with_reducible refine Kd.C_drewN ?_ _) | (with_reducible refine Kd.C_drew ?_))))
                                        (case aB => exact (by repeat (first | (with_reducible first | exact HB.out | apply below_alloc | apply pw_below_drewN | apply below_drew1 | refine below_set ?_ GE379.out) | exact HB.out)))
                                        (case aF => exact (fun _ _ => trivial))
                                        (case aO => exact ((Kd.R_nil _ _ _ _ (fun _ => True))))
                                        (case aS => exact (below_size (by repeat (first | (with_reducible first | exact HB.out | apply below_alloc | apply pw_below_drewN | apply below_drew1 | refine below_set ?_ GE379.out) | exact HB.out))))
                                        (case aL => have := LMc32.out; have hlx_ := (show ((l1.take ((wrap64 ((ji28) + (wrap64 (t377)))) : Int).toNat).drop ((ji28) : Int).toNat).length = ((wrap64 ((ji28) + (wrap64 (t377)))).toNat - (ji28).toNat) from (by rw [List.length_drop, List.length_take]; have h_ : ((wrap64 ((ji28) + (wrap64 (t377)))) : Int) ≤ (l1.length : Int) := of_decide_eq_true (by first | (with_reducible assumption) | assumption); omega)); omega)
                                        intro v382 w39 ho hb hg hat
                                        rw [← Ny381.out] at ho
                                        have n0_ := Aside0.mk (Kd.S_after (Kd.S_apart_nil (by (with_reducible repeat (first | apply Kd.S_alloc | apply Kd.S_drewN | apply Kd.S_drew)); exact HO_15.out)) hg hat)
                                        have n1_ := Aside0.mk (blk_grown (g := gb379) (o := .cells #[.int .i64 (wrap64 (t373)), .int .i64 (wrap64 (t375)), .slice none 0 0] 33 (0, 0)) (by (with_reducible repeat (first | refine blk_drewN ?_ _ | refine blk_drew ?_ | refine blk_alloc ?_ _)); exact BK379.out) hg (by simp [Value.ownBlock]))
                                        have n2_ := Aside0.mk (hb)
                                        have n3_ := Aside0.mk (ho)
                                        clear HO_15
                                        clear BK379
                                        clear HB
                                        have HO_15 := n0_
                                        have BK379 := n1_
                                        have HB := n2_
                                        have HO383 := n3_
                                        clear n0_ n1_ n2_ n3_
                                        clear ho hb hg hat
                                        obtain ⟨Ao40, co40, eo40⟩ := Kd.R_slice HO383.out
                                        (first | subst eo40 | (injection eo40 with f1_ f2_ f3_; have f4_ := f1_.symm; have f5_ := f3_.symm; clear f1_ f2_ f3_; subst f4_; subst f5_))
                                        refine hK.out _ _ ⟨(blk_cell BK379.out 0).trans rfl, (blk_cell BK379.out 1).trans rfl, (blk_cell BK379.out 2).trans rfl⟩ (fun hHeld => ?_)
                                        clear hK K
                                        refine norm_ (a' := ?_) ?_ ?_
                                        rotate_left
                                        · show Act.put _ (some 125) _ = _
                                          simp only [Act.put, List.setIfInBounds_toArray, List.set_cons_zero, List.set_cons_succ, i64_w, i32_w]
                                          rfl
                                        refine pure_ (i := 10) (N := some 126) (v := ?_) (a' := ?_) #[true, true, true, true, true, true, true, true, true, true, true, false] rfl rfl (any_of HT_.out (by kernel_rfl)) (fun _ _ _ h => h) (Or.inl ⟨by rfl, ?_⟩) ?_ ?_
                                        rotate_left
                                        · intro w'
                                          go_simp
                                          with_reducible rfl
                                        rotate_left
                                        · simp only [Act.put, List.setIfInBounds_toArray, List.set_cons_zero, List.set_cons_succ, i64_w, i32_w]
                                          rfl
                                        refine last_ (i := 11) (N := none) #[true, true, true, true, true, true, true, true, true, true, true, true] rfl rfl (one_of HT_.out (by kernel_rfl)) (by decide) (fun K hK => ?_)
                                        have hs41 : w39.cell? ⟨gb379, 2, none⟩ = some (.slice none 0 0) := (blk_cell BK379.out 2).trans rfl
                                        have hfs41 := blk_frozen BK379.out 2
                                        refine skip_ (w1 := ?_) (by rfl) rfl ?_ ?_
                                        rotate_left
                                        · go_simp
                                          rfl
                                        refine hK.out _ _ ?_
                                        clear hK K
                                        refine done_ (done_of HT_.out (by kernel_rfl)) ?_
                                        have n0_ : Aside0 (Kd.S k33 33 (w39.setCell ⟨gb379, 2, none⟩ (.slice Ao40 y381.length co40)) w.heap.size (fun k_ => some k_ ≠ (.slice Ao40 y381.length co40 : Value).ownBlock ∧ k_ ≠ gb379) u15 x15_2) := ⟨by (with_reducible repeat (first | apply Kd.S_alloc | apply Kd.S_drewN | apply Kd.S_drew)); exact Kd.S_mono (Kd.S_far (p := ⟨gb379, 2, none⟩) (Kd.S_mono HO_15.out (fun k_ hk => (⟨hk, hk.1⟩ : _ ∧ k_ ≠ gb379))) (fun _ hk => hk.2) (.slice Ao40 y381.length co40)) (fun _ hk => ⟨hk.1.2, hk.1.1⟩)⟩
                                        have n1_ : Aside0 (Kd.R (Kd.int .u8) 5 (w39.setCell ⟨gb379, 2, none⟩ (.slice Ao40 y381.length co40)) w.heap.size (fun _ => True) (.slice Ao40 y381.length co40) y381) := ⟨by (with_reducible repeat (first | apply Kd.R_alloc | apply Kd.R_drewN | apply Kd.R_drew)); exact Kd.R_mono (Kd.R_far (p := ⟨gb379, 2, none⟩) (Kd.R_types HO383.out BK379.out (by decide)) (fun _ hk => hk.2) (.slice Ao40 y381.length co40)) (fun _ hk => trivial)⟩
                                        have n2_ : Aside0 ((w39.setCell ⟨gb379, 2, none⟩ (.slice Ao40 y381.length co40)).heap[gb379]? = some (.cells #[.int .i64 (wrap64 (t373)), .int .i64 (wrap64 (t375)), .slice Ao40 y381.length co40] 33 (0, 0))) := ⟨by (with_reducible repeat (first | refine blk_drewN ?_ _ | refine blk_drew ?_ | refine blk_alloc ?_ _)); refine blk_put (cs := #[.int .i64 (wrap64 (t373)), .int .i64 (wrap64 (t375)), .slice none 0 0]) ?_ 2 _ rfl; (with_reducible repeat (first | refine blk_drewN ?_ _ | refine blk_drew ?_ | refine blk_alloc ?_ _)); exact BK379.out⟩
                                        have n3_ : Aside0 (Below w.heap.size w (w39.setCell ⟨gb379, 2, none⟩ (.slice Ao40 y381.length co40))) := ⟨by repeat (first | (with_reducible first | exact HB.out | apply below_alloc | apply pw_below_drewN | apply below_drew1 | refine below_set ?_ GE379.out) | exact HB.out)⟩
                                        (try clear HO_15)
                                        (try clear HO383)
                                        (try clear BK379)
                                        (try clear HB)
                                        generalize (w39.setCell ⟨gb379, 2, none⟩ (.slice Ao40 y381.length co40)) = w42 at n0_ n1_ n2_ n3_ ⊢
                                        have HO_15 := n0_
                                        have HO383 := n1_
                                        have BK379 := n2_
                                        have HB := n3_
                                        clear n0_ n1_ n2_ n3_
                                        have hcz43_0 : w42.cell? ⟨gb379, 0, none⟩ = some (.int .i64 (wrap64 (t373))) := (blk_cell BK379.out 0).trans rfl
                                        have hcz43_1 : w42.cell? ⟨gb379, 1, none⟩ = some (.int .i64 (wrap64 (t375))) := (blk_cell BK379.out 1).trans rfl
                                        have hcz43_2 : w42.cell? ⟨gb379, 2, none⟩ = some (.slice Ao40 y381.length co40) := (blk_cell BK379.out 2).trans rfl
                                        have hfz43_0 := blk_frozen BK379.out 0
                                        have hfz43_1 := blk_frozen BK379.out 1
                                        have hfz43_2 := blk_frozen BK379.out 2
                                        try go_wp2_with (first | ((with_reducible refine gate_builtin (b := .append) (xs := #[.tmp 127, .tmp 129]) rfl ?_); at_builtin; refine Kd.S_append k33 (w0 := w) w.heap.size rfl (.tmp 127) (.tmp 129) 24 33 (.agg #[(.int .i64 0), (.int .i64 0), (.slice none 0 0)]) 40 rfl Try.underlying24 info33 rfl (by decide) (by omega) u15 x15_2 (⟨wrap64 (t373), wrap64 (t375), y381⟩ : S33) [.int .i64 (wrap64 (t373)), .int .i64 (wrap64 (t375)), .slice Ao40 y381.length co40] (fun k_ => k_ ≠ gb379) (fun k_ => some k_ = (.slice Ao40 y381.length co40 : Value).ownBlock) rfl rfl ?aP (fun k_ hk_ => ((Kd.R_mono (ok' := fun k_ => ((fun k_ => k_ ≠ gb379)) k_ ∧ some k_ ≠ (u15 : Value).ownBlock) (Kd.R_types (Kd.R_apart' (HO383.out) (Kd.S_typed HO_15.out) (by decide)) BK379.out (by decide)) (fun k_ hk => ⟨hk.2, hk.1.2⟩))).1 k_ hk_.symm) ?aF ?aO ?aB ?aS ?aL ?_; (case aP => exact k33_mkM _ _ _ (⟨wrap64 (t373), wrap64 (t375), y381⟩ : S33) (Kd.R_mono (Kd.R_tight rfl (Kd.R_mono (ok' := fun k_ => ((fun k_ => k_ ≠ gb379)) k_ ∧ some k_ ≠ (u15 : Value).ownBlock) (Kd.R_types (Kd.R_apart' (HO383.out) (Kd.S_typed HO_15.out) (by decide)) BK379.out (by decide)) (fun k_ hk => ⟨hk.2, hk.1.2⟩))) (fun _ h_ => h_))); (case aB => exact (by repeat (first | (with_reducible first | exact HB.out | apply below_alloc | apply pw_below_drewN | apply below_drew1 | refine below_set ?_ GE379.out) | exact HB.out))); (case aF => exact (fun k_ hk => Kd.freshB (g := gb379) (o := .cells #[.int .i64 (wrap64 (t373)), .int .i64 (wrap64 (t375)), .slice Ao40 y381.length co40] 33 (0, 0)) (by (with_reducible repeat (first | refine blk_drewN ?_ _ | refine blk_drew ?_ | refine blk_alloc ?_ _)); exact BK379.out) k_ hk)); (case aO => exact (by (with_reducible repeat (first | apply Kd.S_alloc | apply Kd.S_drewN | apply Kd.S_drew)); exact Kd.S_mono HO_15.out (fun k_ hk => ⟨hk.2, fun e_ => hk.1 e_⟩))); (case aS => exact (below_size (by repeat (first | (with_reducible first | exact HB.out | apply below_alloc | apply pw_below_drewN | apply below_drew1 | refine below_set ?_ GE379.out) | exact HB.out)))); (case aL => have := LMc33.out; omega); intro v385 w44 ho hb hg hat; rw [← Ny384.out] at ho; have n0_ := Aside0.mk (blk_grown (g := gb379) (o := .cells #[.int .i64 (wrap64 (t373)), .int .i64 (wrap64 (t375)), .slice Ao40 y381.length co40] 33 (0, 0)) (by (with_reducible repeat (first | refine blk_drewN ?_ _ | refine blk_drew ?_ | refine blk_alloc ?_ _)); exact BK379.out) hg (Kd.S_away HO_15.out (fun _ hk => hk.2))); have n1_ := Aside0.mk (hb); have n2_ := Aside0.mk (ho); clear BK379; clear HB; clear HO_15; clear HO383; have BK379 := n0_; have HB := n1_; have HO386 := n2_; clear n0_ n1_ n2_; clear ho hb hg hat))
                                        go_roundg k2
                                        case measure => have := HJ13.out; have := HK2.out; omega
                                        case rel => exact ⟨(y384), (wrap64 ((ji28) + (wrap64 (t377)))), (wrap64 (x17_2 + 1)), (by first | rfl | (simp; done) | (simp only [← hji28] <;> (first | rfl | simp)) | (simp [*]; done)), (by first | rfl | (simp; done) | (simp [*]; done)), H', ⟨by have := HJ13.out; have := HK2.out; omega⟩, ⟨by (with_reducible repeat (first | apply Kd.S_alloc | apply Kd.S_drewN | apply Kd.S_drew)); exact Kd.S_mono HO386.out (fun _ hk => trivial)⟩, ⟨by repeat (first | (with_reducible first | exact HB.out | apply below_alloc | apply pw_below_drewN | apply below_drew1 | refine below_set ?_ GE379.out) | exact HB.out)⟩⟩
                                      · rw [if_neg c33] at H
                                        exact absurd H (by simp)
                                    · rw [if_neg c32] at H
                                      exact absurd H (by simp)
                                  · rw [if_neg c31] at H
                                    exact absurd H (by simp)
                                · rw [if_neg c30] at H
                                  exact absurd H (by simp)
                              · rw [if_neg c29] at H
                                exact absurd H (by simp)
                        · rw [if_neg c22] at H
                          have c22b0 : decide (x17_2 < (wrap64 (t371))) = false := decide_eq_false c22
                          clear c22
                          by_cases c45 : x16_2 = ji7
                          · rw [if_pos c45] at H
                            have c45b0 : (x16_2 == ji7) = true := beq_iff_eq.mpr c45
                            have c45b1 : (x16_2 != ji7) = false := bne_eq_false_iff_eq.mpr c45
                            clear c45
                            replace H := Option.bind_eq_some_iff.mp H
                            obtain ⟨t387, A460, H⟩ := H
                            replace H : (if t387 = true then (some (x15_2, 0)) else (some (([] : List (S33)), 33))) = some (r1, r2) := H
                            have A46 := Aside0.mk A460
                            clear A460
                            by_cases c47 : t387 = true
                            · subst c47
                              have H1 : (some (x15_2, 0)) = some (r1, r2) := by rw [if_pos rfl] at H; exact H
                              clear H
                              have H := H1
                              clear H1
                              simp only [Option.some.injEq, Prod.mk.injEq] at H
                              obtain ⟨rfl, rfl⟩ := H
                              obtain ⟨Ao48, co48, eo48⟩ := Kd.S_slice HO_15.out
                              subst eo48
                              go_wp2_with (first | ((with_reducible refine gate_callee (f := 27) rfl ?_); refine goesL_ (some 141) rfl rfl Try.func27 (by kernel_rfl) rfl #[.int .i64 (l0.length : Int), .slice Ao48 x15_2.length co48] rfl (by (try simp only [List.map_toArray, List.map_cons, List.map_nil]); first | done | rfl | (simp only [List.length_drop, List.length_take]; rfl)) ?_; (with_reducible refine (turnpikeref21_Fit.calls k2 (l0.length : Int) _ _ x15_2 true _ ?side1 ?side2 A46.out).mono ?_); (case side1 => repeat (first | exact (Kd.S_reads' HO_15.out).2.2 | (with_reducible refine Kd.C_alloc ?_ _) | (with_reducible refine Kd.C_drewN ?_ _) | (with_reducible refine Kd.C_drew ?_))); (case side2 => exact (Kd.S_reads' HO_15.out).2.1); rintro e w' ⟨rfl, ⟨nd, rfl⟩⟩; refine ⟨_, rfl, ?_⟩))
                              go_ret2
                              exact ⟨_, by first | rfl | (simp [errW_none, errW_some] <;> rfl) | (simp only [← hji7]; first | rfl | (simp [errW_none, errW_some] <;> rfl)) | (simp [*, errW_none, errW_some] <;> rfl), by (with_reducible repeat (first | apply Kd.S_alloc | apply Kd.S_drewN | apply Kd.S_drew)); exact HO_15.out, by repeat (first | (with_reducible first | exact HB.out | apply below_alloc | apply pw_below_drewN | apply below_drew1) | exact HB.out)⟩
                            · replace c47 := Bool.eq_false_iff.mpr c47
                              subst c47
                              have H1 : (some (([] : List (S33)), 33)) = some (r1, r2) := by rw [if_neg (show ¬ (false = true) by decide)] at H; exact H
                              clear H
                              have H := H1
                              clear H1
                              simp only [Option.some.injEq, Prod.mk.injEq] at H
                              obtain ⟨rfl, rfl⟩ := H
                              obtain ⟨Ao49, co49, eo49⟩ := Kd.S_slice HO_15.out
                              subst eo49
                              go_wp2_with (first | ((with_reducible refine gate_callee (f := 27) rfl ?_); refine goesL_ (some 141) rfl rfl Try.func27 (by kernel_rfl) rfl #[.int .i64 (l0.length : Int), .slice Ao49 x15_2.length co49] rfl (by (try simp only [List.map_toArray, List.map_cons, List.map_nil]); first | done | rfl | (simp only [List.length_drop, List.length_take]; rfl)) ?_; (with_reducible refine (turnpikeref21_Fit.calls k2 (l0.length : Int) _ _ x15_2 false _ ?side1 ?side2 A46.out).mono ?_); (case side1 => repeat (first | exact (Kd.S_reads' HO_15.out).2.2 | (with_reducible refine Kd.C_alloc ?_ _) | (with_reducible refine Kd.C_drewN ?_ _) | (with_reducible refine Kd.C_drew ?_))); (case side2 => exact (Kd.S_reads' HO_15.out).2.1); rintro e w' ⟨rfl, ⟨nd, rfl⟩⟩; refine ⟨_, rfl, ?_⟩))
                              go_ret2
                              exact ⟨_, by first | rfl | (simp [errW_none, errW_some] <;> rfl) | (simp only [← hji7]; first | rfl | (simp [errW_none, errW_some] <;> rfl)) | (simp [*, errW_none, errW_some] <;> rfl), by first | exact Kd.S_nil _ _ _ _ _ | exact Kd.N_nil _ _ _ _ _ | exact Kd.V_nil _ _ _ _ _ | exact Kd.Q_nil _ _ _ _ _ | exact Kd.R_nil _ _ _ _ _, by repeat (first | (with_reducible first | exact HB.out | apply below_alloc | apply pw_below_drewN | apply below_drew1) | exact HB.out)⟩
                          · rw [if_neg c45] at H
                            have c45b0 : (x16_2 == ji7) = false := beq_eq_false_iff_ne.mpr c45
                            have c45b1 : (x16_2 != ji7) = true := bne_iff_ne.mpr c45
                            simp only [Option.some.injEq, Prod.mk.injEq] at H
                            obtain ⟨rfl, rfl⟩ := H
                            go_wp2
                            go_ret2
                            exact ⟨_, by first | rfl | (simp [errW_none, errW_some] <;> rfl) | (simp only [← hji7]; first | rfl | (simp [errW_none, errW_some] <;> rfl)) | (simp [*, errW_none, errW_some] <;> rfl), by first | exact Kd.S_nil _ _ _ _ _ | exact Kd.N_nil _ _ _ _ _ | exact Kd.V_nil _ _ _ _ _ | exact Kd.Q_nil _ _ _ _ _ | exact Kd.R_nil _ _ _ _ _, by repeat (first | (with_reducible first | exact HB.out | apply below_alloc | apply pw_below_drewN | apply below_drew1) | exact HB.out)⟩
            · rw [if_neg c11] at H
              have c11b0 : (t362 == t365) = false := beq_eq_false_iff_ne.mpr c11
              have c11b1 : (t362 != t365) = true := bne_iff_ne.mpr c11
              simp only [Option.some.injEq, Prod.mk.injEq] at H
              obtain ⟨rfl, rfl⟩ := H
              obtain ⟨i050, hi050, _, hsz50, _⟩ := info_parts info5
              obtain ⟨hcut50, hA50, hC50⟩ := print_take_of (P := Try.prog) (Value.int .u8) 0 22 5 .i64 Try.underlying22 hi050 hsz50 A1 c1 l1 4 (by omega) (of_decide_eq_true (by first | (with_reducible assumption) | assumption)) HC1.out
              have HR361 := Aside0.mk (Kd.C_of_reads (h1 := fun _ => rfl) (hA50 _ (Kd.reads_of_C HR1.out)))
              have HC361 := Aside0.mk hC50
              clear hA50 hC50 hi050 hsz50
              have hcv51 := Kd.C_string (P := Try.prog) (A := A1) (c := c1) Try.underlying22 Try.underlying5 Try.underlying9 HR361.out
              have hcw51 := fun (nq_ : Nat) => Kd.C_string (P := Try.prog) (A := A1) (c := c1) Try.underlying22 Try.underlying5 Try.underlying9 (Kd.C_drewN HR361.out nq_)
              (try simp only [List.length_take, Int.reduceToNat] at hcv51 hcw51)
              go_enter Try.func24, Try.ntmps24
              go_wp2_with (first | ((with_reducible refine gate_callee (f := 35) rfl ?_); refine goesL_ (some 38) rfl rfl Try.func35 (by kernel_rfl) rfl #[.slice A1 l1.length c1, .int .i64 ji7, .int .i64 4] rfl (by (try simp only [List.map_toArray, List.map_cons, List.map_nil]); first | done | (simp only [hji7]; rfl) | rfl | (simp only [List.length_drop, List.length_take]; rfl)) ?_; (with_reducible refine (turnpikeref13_Get.calls k _ _ l1 ji7 4 t362 t363 _ ?side1 ?side2 A6.out).mono ?_); (case side1 => repeat (first | exact HR1.out | (with_reducible refine Kd.C_alloc ?_ _) | (with_reducible refine Kd.C_drewN ?_ _) | (with_reducible refine Kd.C_drew ?_))); (case side2 => exact HC1.out); rintro e w' ⟨rfl, ⟨nd, rfl⟩⟩; refine ⟨_, rfl, ?_⟩; obtain ⟨i052, hi052, _, hsz52, _⟩ := info_parts info5; obtain ⟨hcut52, hA52, hC52⟩ := print_take_of (P := Try.prog) (Value.int .u8) 0 22 5 .i64 Try.underlying22 hi052 hsz52 A1 c1 l1 (ji7) (of_decide_eq_true (by first | (with_reducible assumption) | assumption)) (of_decide_eq_true (by first | (with_reducible assumption) | assumption)) HC1.out; have HR364 := Aside0.mk (Kd.C_of_reads (h1 := fun _ => rfl) (hA52 _ (Kd.reads_of_C HR1.out))); have HC364 := Aside0.mk hC52; clear hA52 hC52 hi052 hsz52) | ((with_reducible refine gate_callee (f := 26) rfl ?_); refine goesL_ (some 45) rfl rfl Try.func26 (by kernel_rfl) rfl #[.slice A1 (l1.take ((ji7) : Int).toNat).length c1] rfl (by (try simp only [List.map_toArray, List.map_cons, List.map_nil]); first | done | (rw [show (l1.take ((ji7) : Int).toNat).length = (ji7).toNat from (by rw [List.length_take]; have h_ : ((ji7) : Int) ≤ (l1.length : Int) := of_decide_eq_true (by first | (with_reducible assumption) | assumption); omega)] <;> rfl) | (simp only [hji7]; rfl) | rfl | (simp only [List.length_drop, List.length_take]; rfl)) ?_; (with_reducible refine (turnpikeref13_Sum.calls k _ _ (l1.take ((ji7) : Int).toNat) t365 _ ?side1 ?side2 A10.out).mono ?_); (case side1 => repeat (first | exact HR364.out | (with_reducible refine Kd.C_alloc ?_ _) | (with_reducible refine Kd.C_drewN ?_ _) | (with_reducible refine Kd.C_drew ?_))); (case side2 => exact HC364.out); rintro e w' ⟨rfl, ⟨nd, rfl⟩⟩; refine ⟨_, rfl, ?_⟩))
              go_ret2
              exact ⟨_, by first | rfl | (simp [errW_none, errW_some] <;> rfl) | (simp only [← hji7]; first | rfl | (simp [errW_none, errW_some] <;> rfl)) | (simp [*, errW_none, errW_some] <;> rfl), by first | exact Kd.S_nil _ _ _ _ _ | exact Kd.N_nil _ _ _ _ _ | exact Kd.V_nil _ _ _ _ _ | exact Kd.Q_nil _ _ _ _ _ | exact Kd.R_nil _ _ _ _ _, by repeat (first | (with_reducible first | exact HB.out | apply below_alloc | apply pw_below_drewN | apply below_drew1) | exact HB.out)⟩
          · rw [if_neg c9] at H
            exact absurd H (by simp)
        · rw [if_neg c8] at H
          exact absurd H (by simp)
      · rw [if_neg c5] at H
        have c5b0 : ((strOfNums (l1.take 4)).toList == ([84, 80, 68, 49] : List UInt8)) = false := beq_eq_false_iff_ne.mpr c5
        have c5b1 : ((strOfNums (l1.take 4)).toList != ([84, 80, 68, 49] : List UInt8)) = true := bne_iff_ne.mpr c5
        simp only [Option.some.injEq, Prod.mk.injEq] at H
        obtain ⟨rfl, rfl⟩ := H
        obtain ⟨i053, hi053, _, hsz53, _⟩ := info_parts info5
        obtain ⟨hcut53, hA53, hC53⟩ := print_take_of (P := Try.prog) (Value.int .u8) 0 22 5 .i64 Try.underlying22 hi053 hsz53 A1 c1 l1 4 (by omega) (of_decide_eq_true (by first | (with_reducible assumption) | assumption)) HC1.out
        have HR361 := Aside0.mk (Kd.C_of_reads (h1 := fun _ => rfl) (hA53 _ (Kd.reads_of_C HR1.out)))
        have HC361 := Aside0.mk hC53
        clear hA53 hC53 hi053 hsz53
        have hcv54 := Kd.C_string (P := Try.prog) (A := A1) (c := c1) Try.underlying22 Try.underlying5 Try.underlying9 HR361.out
        have hcw54 := fun (nq_ : Nat) => Kd.C_string (P := Try.prog) (A := A1) (c := c1) Try.underlying22 Try.underlying5 Try.underlying9 (Kd.C_drewN HR361.out nq_)
        (try simp only [List.length_take, Int.reduceToNat] at hcv54 hcw54)
        go_enter Try.func24, Try.ntmps24
        go_wp2
        go_ret2
        exact ⟨_, by first | rfl | (simp [errW_none, errW_some] <;> rfl) | (simp [*, errW_none, errW_some] <;> rfl), by first | exact Kd.S_nil _ _ _ _ _ | exact Kd.N_nil _ _ _ _ _ | exact Kd.V_nil _ _ _ _ _ | exact Kd.Q_nil _ _ _ _ _ | exact Kd.R_nil _ _ _ _ _, by repeat (first | (with_reducible first | exact HB.out | apply below_alloc | apply pw_below_drewN | apply below_drew1) | exact HB.out)⟩
    · rw [if_neg c4] at H
      exact absurd H (by simp)

end Go.Proofs.Ytlfkbkobkibemaa.PT
