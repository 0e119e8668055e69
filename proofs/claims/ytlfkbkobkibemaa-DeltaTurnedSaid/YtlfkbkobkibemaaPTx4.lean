-- Written by wip/xprint.py, a driver of this session's own over the kit's printer; Lean checks it.
import Derived.Test.YtlfkbkobkibemaaPTx0
import Derived.Test.YtlfkbkobkibemaaPTx3
import Derived.Lib.SlBytesConst
namespace Go.Proofs.Ytlfkbkobkibemaa.PT
open Go.Proofs.YtlfkbkobkibemaaM Go.RowKit Go.Proofs.YtlfkbkobkibemaaW.PrintWords Go.Proofs.YtlfkbkobkibemaaW.PrintLast Go.Proofs.YtlfkbkobkibemaaW.PrintMore
attribute [local go_sem] max2_int min2_int max_two min_two max_three min_three max_four min_four   -- for this text's walks alone
set_option linter.unusedVariables false
set_option linter.unusedSimpArgs false

/-! ### turnpikelaw21_known: function 11 (by hand) -/
-- IMPORT Derived.Lib.SlBytesConst
def turnpikelaw21_known.f : Option (Bool) := some true
theorem turnpikelaw21_known.diff : delta_Diff.f 20 [97, 98, 99, 100, 101] [97, 98, 88, 101] = some [(⟨2, 2, [88]⟩ : S33)] := by kernel_rfl
theorem turnpikelaw21_known.two0 (w : World) (o o' : Obj) : ((w.alloc o).alloc o').heap[w.heap.size]? = some o := by
  show ((w.heap.push o).push o')[w.heap.size]? = some o
  rw [Array.getElem?_push, if_neg (by simp), Array.getElem?_push, if_pos rfl]
theorem turnpikelaw21_known.two1 (w : World) (o o' : Obj) : ((w.alloc o).alloc o').heap[w.heap.size + 1]? = some o' := by
  show ((w.heap.push o).push o')[w.heap.size + 1]? = some o'
  rw [Array.getElem?_push, if_pos (by simp)]
set_option maxHeartbeats 8000000 in
set_option maxRecDepth 100000 in
theorem turnpikelaw21_known.calls (r : Bool) (w : World) (h : turnpikelaw21_known.f = some r) :
    Calls Try.prog 11 #[] w fun e w' => e = .returned (.bool r) ∧ Below w.heap.size w w' := by
  obtain rfl : true = r := Option.some.inj h
  clear h
  have kc := fun (w : World) (C : Array Value) (n c : Nat) => Lib.run_convert_bytes_const (P := Try.prog) w 22 5 C n c Try.underlying22 Try.underlying5
  have kc2 : ∀ (w : World) (o : Obj) (C : Array Value) (n c : Nat), (convert 22 22 (.slice (some ⟨w.heap.size + 1, 0, none⟩) n c)).run Try.prog ((w.alloc o).alloc (.cells C 5)) = .ok (.slice (some ⟨w.heap.size + 1, 0, none⟩) n c) ((w.alloc o).alloc (.cells C 5 (C.size, C.size + 1))) := by
    intro w o C n c
    have := kc (w.alloc o) C n c
    simpa using this
  go_enter Try.func11, Try.ntmps11
  go_wp2_with fail
  clear kc kc2
  obtain ⟨W, hW⟩ : ∃ W : World, W = ((w.alloc (Obj.cells #[Value.int IntKind.u8 97, Value.int IntKind.u8 98, Value.int IntKind.u8 99, Value.int IntKind.u8 100, Value.int IntKind.u8 101] 5 (5, 6))).alloc (Obj.cells #[Value.int IntKind.u8 97, Value.int IntKind.u8 98, Value.int IntKind.u8 88, Value.int IntKind.u8 101] 5 (4, 5))) := ⟨_, rfl⟩
  rw [← hW]
  have hB : Below w.heap.size w W := by rw [hW]; exact below_alloc (below_alloc (Below.refl _ _) _) _
  have h0 := turnpikelaw21_known.two0 w (Obj.cells #[Value.int IntKind.u8 97, Value.int IntKind.u8 98, Value.int IntKind.u8 99, Value.int IntKind.u8 100, Value.int IntKind.u8 101] 5 (5, 6)) (Obj.cells #[Value.int IntKind.u8 97, Value.int IntKind.u8 98, Value.int IntKind.u8 88, Value.int IntKind.u8 101] 5 (4, 5))
  have h1 := turnpikelaw21_known.two1 w (Obj.cells #[Value.int IntKind.u8 97, Value.int IntKind.u8 98, Value.int IntKind.u8 99, Value.int IntKind.u8 100, Value.int IntKind.u8 101] 5 (5, 6)) (Obj.cells #[Value.int IntKind.u8 97, Value.int IntKind.u8 98, Value.int IntKind.u8 88, Value.int IntKind.u8 101] 5 (4, 5))
  rw [← hW] at h0 h1
  refine (delta_Diff.calls 20 _ _ [97, 98, 99, 100, 101] _ _ [97, 98, 88, 101] _ W (C_lit h0 .u8 _ rfl (by simp)) (by simp) (C_lit h1 .u8 _ rfl (by simp)) (by simp) turnpikelaw21_known.diff).mono ?_
  rintro e w1 ⟨v0, rfl, ho, hb⟩
  have HB := Aside0.mk (below_step hB hb)
  clear hb hB h0 h1 hW
  obtain ⟨A, c, rfl⟩ := Kd.N_slice ho
  obtain ⟨ad, A2, c2, e1, hx0, hx1, hx2, hl2, hi2⟩ := at_T33 (Kd.N_reads' ho).2.2 0 (by omega) (by decide)
  subst e1
  rw [show (((0 : Int)).toNat * 3) = 0 from rfl, Addr.add_zero'] at hx0 hx1 hx2
  replace hx0 : w1.cell? ad = some (.int .i64 2) := hx0
  replace hx1 : w1.cell? ⟨ad.block, ad.off + 1, none⟩ = some (.int .i64 2) := hx1
  replace hx2 : w1.cell? ⟨ad.block, ad.off + 2, none⟩ = some (.slice A2 1 c2) := hx2
  have hcv := Kd.C_string (P := Try.prog) (A := A2) (c := c2) Try.underlying22 Try.underlying5 Try.underlying9 (show Kd.C (Kd.int .u8) w1 A2 1 [88] from hi2)
  have hcw := fun (nq_ : Nat) => Kd.C_string (P := Try.prog) (A := A2) (c := c2) Try.underlying22 Try.underlying5 Try.underlying9 (Kd.C_drewN (show Kd.C (Kd.int .u8) w1 A2 1 [88] from hi2) nq_)
  clear hi2 hl2 ho
  have hs : ((strOfNums [88]).toList == ([88] : List UInt8)) = true := by kernel_rfl
  go_wp2
  repeat (go_quiet (fail); try go_wp2)
  go_ret
  exact ⟨rfl, by repeat (first | (with_reducible first | exact HB.out | apply below_alloc | apply pw_below_drewN | apply below_drew1) | exact HB.out)⟩

end Go.Proofs.Ytlfkbkobkibemaa.PT
