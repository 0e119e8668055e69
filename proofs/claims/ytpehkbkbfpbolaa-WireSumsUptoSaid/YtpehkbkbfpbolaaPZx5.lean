-- Written by wip/xprint.py, a driver of this session's own over the kit's printer; Lean checks it.
import Derived.Test.YtpehkbkbfpbolaaPZx0
import Derived.Test.YtpehkbkbfpbolaaPZx2
import Derived.Test.YtpehkbkbfpbolaaPZx4
import Derived.Lib.SlBytesConst
import Derived.Test.YtpehkbkbfpbolaaM
namespace Go.Proofs.Ytpehkbkbfpbolaa.PZ
open Go.Proofs.YtpehkbkbfpbolaaM Go.RowKit Go.Proofs.YtpehkbkbfpbolaaW.PrintWords Go.Proofs.YtpehkbkbfpbolaaW.PrintLast Go.Proofs.YtpehkbkbfpbolaaW.PrintMore
attribute [local go_sem] max2_int min2_int max_two min_two max_three min_three max_four min_four   -- for this text's walks alone
set_option linter.unusedVariables false
set_option linter.unusedSimpArgs false

/-! ### turnpikelaw13_known: function 14 (by hand) -/
-- IMPORT Derived.Lib.SlBytesConst
-- IMPORT Derived.Test.YtpehkbkbfpbolaaM
def turnpikelaw13_known.f : Option (Bool) := some true
theorem turnpikelaw13_known.fold : wire_Fold_int.f 20 [5, 5, 7, 5] = some ([2952790016], [5, 7, 5]) := by kernel_rfl
theorem turnpikelaw13_known.sum : wire_Sum.f [[49, 50, 51, 52], [53, 54, 55, 56, 57]] = some 3808858755 := by kernel_rfl
set_option maxHeartbeats 8000000 in
set_option maxRecDepth 100000 in
theorem turnpikelaw13_known.calls (r : Bool) (w : World) (h : turnpikelaw13_known.f = some r) :
    Calls Try.prog 14 #[] w fun e w' => e = .returned (.bool r) ∧ Below w.heap.size w w' := by
  obtain rfl : true = r := Option.some.inj h
  clear h
  have kc := fun (w : World) (C : Array Value) (n c : Nat) => Lib.run_convert_bytes_const (P := Try.prog) w 24 5 C n c Try.underlying24 Try.underlying5
  have kc2 : ∀ (w : World) (o : Obj) (C : Array Value) (n c : Nat), (convert 24 24 (.slice (some ⟨w.heap.size + 1, 0, none⟩) n c)).run Try.prog ((w.alloc o).alloc (.cells C 5)) = .ok (.slice (some ⟨w.heap.size + 1, 0, none⟩) n c) ((w.alloc o).alloc (.cells C 5 (C.size, C.size + 1))) := by
    intro w o C n c
    have := kc (w.alloc o) C n c
    simpa using this
  go_enter Try.func14, Try.ntmps14
  go_wp2_with fail
  have H0 := heap_alloc_new w (.cells #[Value.int .i64 5, Value.int .i64 5, Value.int .i64 7, Value.int .i64 5] 3)
  have HB0 := below_alloc (Below.refl w.heap.size w) (.cells #[Value.int .i64 5, Value.int .i64 5, Value.int .i64 7, Value.int .i64 5] 3)
  refine (wire_Fold_int.calls 20 _ _ [5, 5, 7, 5] _ _ _ (C_lit H0 .i64 _ rfl (by simp)) (by simp) turnpikelaw13_known.fold).mono ?_
  rintro e w1 ⟨v0, v1, rfl, hr0, hr1, hb⟩
  have HB := below_step HB0 hb
  clear H0 HB0 hb
  obtain ⟨A0, k0, rfl⟩ := Kd.R_slice hr0
  obtain ⟨A1, k1, rfl⟩ := Kd.R_slice hr1
  obtain ⟨ad0, hA0, hx0⟩ := Kd.at_int (Kd.R_reads' hr0).2.2 (0 : Int) (by omega) (by decide)
  obtain ⟨ad1, hA1, hx1⟩ := Kd.at_int (Kd.R_reads' hr1).2.2 (1 : Int) (by omega) (by decide)
  subst hA0 hA1
  rw [show (0 : Int).toNat = 0 from rfl, Addr.add_zero'] at hx0
  replace hx0 : w1.cell? ad0 = some (.int .u32 2952790016) := hx0
  replace hx1 : w1.cell? (ad1.add 1) = some (.int .i64 7) := hx1
  clear hr0 hr1
  have HX0 := Aside0.mk hx0
  have HX1 := Aside0.mk hx1
  have HBx := Aside0.mk HB
  clear hx0 hx1 HB
  go_wp2_with fail
  clear kc kc2
  obtain ⟨W, hW⟩ : ∃ W : World, W = (((w1.alloc (Obj.cells #[Value.int IntKind.u8 49, Value.int IntKind.u8 50, Value.int IntKind.u8 51, Value.int IntKind.u8 52] 5 (4, 5))).alloc (Obj.cells #[Value.int IntKind.u8 53, Value.int IntKind.u8 54, Value.int IntKind.u8 55, Value.int IntKind.u8 56, Value.int IntKind.u8 57] 5 (5, 6))).alloc (Obj.cells #[Value.slice (some ⟨w1.heap.size, 0, none⟩) 4 4, Value.slice (some ⟨w1.heap.size + 1, 0, none⟩) 5 5] 24)) := ⟨_, rfl⟩
  have hH := sm_heap3 w1 (Obj.cells #[Value.int IntKind.u8 49, Value.int IntKind.u8 50, Value.int IntKind.u8 51, Value.int IntKind.u8 52] 5 (4, 5)) (Obj.cells #[Value.int IntKind.u8 53, Value.int IntKind.u8 54, Value.int IntKind.u8 55, Value.int IntKind.u8 56, Value.int IntKind.u8 57] 5 (5, 6)) (Obj.cells #[Value.slice (some ⟨w1.heap.size, 0, none⟩) 4 4, Value.slice (some ⟨w1.heap.size + 1, 0, none⟩) 5 5] 24)
  have hBW : Below w1.heap.size w1 W := by rw [hW]; exact below_alloc (below_alloc (below_alloc (Below.refl _ _) _) _) _
  rw [← hW] at hH ⊢
  obtain ⟨h0, h1, h2⟩ := hH
  have hx := C_lit h0 .u8 [49, 50, 51, 52] rfl (by simp)
  have hy := C_lit h1 .u8 [53, 54, 55, 56, 57] rfl (by simp)
  have hc := sm_C_two h2 5 .u8 [49, 50, 51, 52] [53, 54, 55, 56, 57] rfl rfl (by simp) (by simp) hx hy
  refine (wire_Sum.calls _ _ [[49, 50, 51, 52], [53, 54, 55, 56, 57]] _ W hc (by simp) turnpikelaw13_known.sum).mono ?_
  rintro e w2 ⟨rfl, hb⟩
  have hx0 := pw_cell_below hb (pw_cell_below hBW HX0.out)
  have hx1 := pw_cell_below hb (pw_cell_below hBW HX1.out)
  rw [show ad1.add 1 = ⟨ad1.block, ad1.off + 1, none⟩ from by unfold Addr.add; simp] at hx1
  have HB := Aside0.mk (below_step (below_step HBx.out hBW) hb)
  clear hb hBW hc hx hy h0 h1 h2 hW HX0 HX1 HBx
  go_wp2
  repeat (go_quiet (fail); try go_wp2)
  go_ret
  exact ⟨rfl, by repeat (first | (with_reducible first | exact HB.out | apply below_alloc | apply pw_below_drewN | apply below_drew1) | exact HB.out)⟩

end Go.Proofs.Ytpehkbkbfpbolaa.PZ
