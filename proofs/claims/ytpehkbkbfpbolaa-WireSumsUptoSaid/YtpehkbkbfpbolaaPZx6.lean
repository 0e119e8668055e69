-- Written by wip/xprint.py, a driver of this session's own over the kit's printer; Lean checks it.
import Derived.Test.YtpehkbkbfpbolaaPZx0
import Derived.Laws.IdiomCopy
namespace Go.Proofs.Ytpehkbkbfpbolaa.PZ
open Go.Proofs.YtpehkbkbfpbolaaM Go.RowKit Go.Proofs.YtpehkbkbfpbolaaW.PrintWords Go.Proofs.YtpehkbkbfpbolaaW.PrintLast Go.Proofs.YtpehkbkbfpbolaaW.PrintMore
attribute [local go_sem] max2_int min2_int max_two min_two max_three min_three max_four min_four   -- for this text's walks alone
set_option linter.unusedVariables false
set_option linter.unusedSimpArgs false

/-! ### turnpikelaw13_lend: function 15 (by hand) -/
-- IMPORT Derived.Laws.IdiomCopy
def turnpikelaw13_lend.f (l0 : List Int) : Option (List Int) := if l0.length < 140737488355000 then some l0 else none
def ld_full (l : List Int) (j : Nat) : List Int := l ++ (List.replicate j 165 ++ List.replicate (9 - j) 0)
theorem ld_len (l : List Int) {j : Nat} (h : j ≤ 9) : (ld_full l j).length = l.length + 9 := by
  unfold ld_full
  simp only [List.length_append, List.length_replicate]
  omega
theorem ld_next (l : List Int) {j : Nat} (h : j < 9) : (ld_full l j).set (l.length + j) 165 = ld_full l (j + 1) := by
  unfold ld_full
  rw [List.set_append, if_neg (by omega), Nat.add_sub_cancel_left, List.set_append, if_neg (by simp)]
  obtain ⟨m, hm⟩ : ∃ m, 9 - j = m + 1 := ⟨9 - j - 1, by omega⟩
  have h2 : 9 - (j + 1) = m := by omega
  rw [hm, h2, List.length_replicate, Nat.sub_self, List.replicate_succ, List.set_cons_zero, List.replicate_succ']
  simp
theorem ld_cells {base : Nat} {ok : Nat → Prop} {g n c : Nat} : ∀ (xs : List Int) (o : Nat) (w w0 : World) (y : List Int), Kd.R (Kd.int .u8) 5 w base ok (.slice (some ⟨g, 0, none⟩) n c) y → o + xs.length ≤ y.length → Below w0.heap.size w0 w → w0.heap.size ≤ g →
    Kd.R (Kd.int .u8) 5 (w.setCells g o (xs.map (fun x => Value.int .u8 x))) base ok (.slice (some ⟨g, 0, none⟩) n c) (y.take o ++ xs ++ y.drop (o + xs.length)) ∧ Below w0.heap.size w0 (w.setCells g o (xs.map (fun x => Value.int .u8 x)))
  | [], o, w, w0, y, h, hl, hb, hg => by
    refine ⟨?_, hb⟩
    simpa [World.setCells] using h
  | x :: r, o, w, w0, y, h, hl, hb, hg => by
    have h1 := (Kd.R_putg h (o : Int) x).1
    rw [Int.toNat_natCast] at h1
    rw [List.length_cons] at hl
    have h2 := ld_cells r (o + 1) _ w0 _ h1 (by rw [List.length_set]; omega) (below_set hb hg) hg
    have e : (y.set o x).take (o + 1) ++ r ++ (y.set o x).drop (o + 1 + r.length) = y.take o ++ (x :: r) ++ y.drop (o + (x :: r).length) := by
      rw [List.drop_set_of_lt (by omega), List.take_succ_eq_append_getElem (by rw [List.length_set]; omega), List.getElem_set_self, List.take_set_of_le (by omega), List.length_cons, show o + 1 + r.length = o + (r.length + 1) by omega]
      simp
    rw [e] at h2
    exact h2
/-- A copy whose run is known. -/
theorem ld_step {P : Program} {w W : World} {ops : Array Oper} {rest : List Oper} {o : Oper} {a : Act} {Q : Exit → Act → World → Prop} (hgd : o.guard = none) {x y : Operand} {t u : TypeId} (ho : o.op = .call { callee := .builtin .copy, args := #[x, y], argTypes := #[t, u] })
    {p q r : Value} (hx : a.eval x = p) (hy : a.eval y = q) (hr : (Builtin.copy_ #[t, u] o.type #[p, q]).run P w = .ok r W) (h : wpList P ops Q rest (a.put o.dst r) W) : wpList P ops Q (o :: rest) a w := by
  refine wpList_plain hgd fun K hK => ?_
  unfold Oper.wp execOp
  simp only [ho, resolve, invoke, builtin, Sem.run_bind, Sem.run_pure, Result.andThen_ok, List.map_toArray, List.map_cons, List.map_nil, hx, hy, hr]
  exact hK _ _ h
set_option maxHeartbeats 8000000 in
set_option maxRecDepth 100000 in
theorem turnpikelaw13_lend.calls (A0 : Option Addr) (c0 : Nat) (l0 : List Int) (w : World) (hr0 : Kd.C (Kd.int .u8) w A0 l0.length l0) (hc0 : l0.length ≤ c0) (hm0 : l0.length < 140737488355000) :
    Calls Try.prog 15 #[.slice A0 l0.length c0] w fun e w' => ∃ (A : Option Addr) (c : Nat), e = .returned (.slice A l0.length c) ∧ Kd.R (Kd.int .u8) 5 w' w.heap.size (fun _ => True) (.slice A (l0.length + 9) c) (l0 ++ List.replicate 9 165) ∧ Below w.heap.size w w' := by
  have HR0 := Aside0.mk hr0
  have HB := Aside0.mk (Below.refl w.heap.size w)
  have HM := Aside0.mk hm0
  have hsz : (Try.prog.info? 5).map (·.size) = some 1 := by
    obtain ⟨i, hi, _, h1, _⟩ := info_parts info5
    rw [hi, Option.map_some, h1]
  obtain ⟨ji2, hji2⟩ : ∃ j : Int, wrap64 ((l0.length : Int) + 9) = j := ⟨_, rfl⟩
  have hji2v : ji2 = ((l0.length + 9 : Nat) : Int) := by rw [← hji2]; unfold wrap64; omega
  have hji2w : (IntKind.i64.wrap ((l0.length : Int) + 9)) = ji2 := (i64_w _).trans hji2
  have c3 : decide (0 ≤ ji2) = true := decide_eq_true (by omega)
  have c4 : decide (ji2.toNat ≤ 281474976710656) = true := decide_eq_true (by omega)
  obtain ⟨y117, hy117⟩ : ∃ y_ : List Int, y_ = (List.replicate ji2.toNat 0) := ⟨_, rfl⟩
  have Ny117 := Aside0.mk hy117
  have HL := Aside0.mk (show y117.length = l0.length + 9 by rw [hy117, List.length_replicate]; omega)
  have HV := Aside0.mk hji2v
  clear hy117 hr0 hm0 hji2v
  go_enter Try.func15, Try.ntmps15
  go_upto_region 2 with (first | ((with_reducible refine gate_dst (N := 8) rfl ?_); refine Kd.R_make (Kd.int .u8) _ 5 rfl (N := 8) rfl 24 _ _ rfl ji2 rfl rfl Try.underlying24 (.int .u8 0) 1 info5 rfl (by decide) (by omega) 0 (ok := fun _ => True) (okp := fun _ => True) rfl (fun _ hk => hk) trivial (of_decide_eq_true (by first | (with_reducible assumption) | assumption)) (Nat.le_trans (Nat.mul_le_mul_right _ (of_decide_eq_true (by first | (with_reducible assumption) | assumption) : ji2.toNat ≤ 281474976710656)) (by omega)) (Below.refl _ _) (Nat.le_refl _) ?_; intro v118 w5 ho6 hb hg_ hnew_; clear hg_ hnew_; rw [← Ny117.out] at ho6; have n0_ := Aside0.mk (Kd.R_lower ho6 (below_size HB.out)); have n1_ := Aside0.mk (below_step HB.out hb); clear HB; have HO119 := n0_; have HB := n1_; clear n0_ n1_; clear hb ho6; obtain ⟨Ao7, co7, eo7⟩ := Kd.R_slice HO119.out; subst eo7) | fail)
  (try simp only [Act.put, List.setIfInBounds_toArray, List.set_cons_zero, List.set_cons_succ])
  have hR := HO119.out
  obtain ⟨g, cp, eg, hg0, hg1, cl, hgl⟩ := Kd.R_form HO119.out (by rw [HL.out]; omega)
  cases eg
  have hcp : ∃ W1, (Builtin.copy_ #[24, 24] 3 #[.slice (some ⟨g, 0, none⟩) y117.length co7, .slice A0 l0.length c0]).run Try.prog w5 = .ok (goInt l0.length) W1 ∧ Kd.R (Kd.int .u8) 5 W1 w.heap.size (fun _ => True) (.slice (some ⟨g, 0, none⟩) y117.length co7) (ld_full l0 0) ∧ Below w.heap.size w W1 := by
    cases A0 with
    | none =>
      have hl : l0 = [] := by
        rcases Nat.eq_zero_or_pos l0.length with h0 | h0
        · exact List.eq_nil_of_length_eq_zero h0
        · obtain ⟨ad, _, e, _⟩ := Kd.C_get HR0.out 0 0 (by omega) (by omega)
          cases e
      subst hl
      refine ⟨w5, run_copy_none (P := Try.prog) w5 _ _ _ _ _ _ _ _ _ _ Try.underlying24 hsz (by simp), ?_, HB.out⟩
      have : y117 = ld_full [] 0 := by rw [Ny117.out, HV.out]; rfl
      rw [← this]
      exact hR
    | some a =>
      have hC := Kd.C_below HR0.out HB.out
      have hlen : (l0.map (fun x => Value.int .u8 x)).length = l0.length := by simp
      have hput := ld_cells l0 0 w5 w y117 HO119.out (by rw [HL.out]; omega) HB.out hg0
      refine ⟨w5.setCells g 0 (l0.map (fun x => Value.int .u8 x)), ?_, ?_, hput.2⟩
      · have h := run_copy_cells (P := Try.prog) w5 24 24 3 5 g 0 y117.length co7 a l0.length c0 (l0.map (fun x => Value.int .u8 x)) Try.underlying24 hsz (by rw [hlen, HL.out]; exact (Nat.min_eq_left (by omega)).symm) ?_ ?_ ?_ ?_
        · rw [hlen] at h
          exact h
        · intro j v hj
          rw [List.getElem?_map] at hj
          obtain ⟨x, hx, rfl⟩ := Option.map_eq_some_iff.1 hj
          obtain ⟨hjl, hxe⟩ := List.getElem?_eq_some_iff.1 hx
          obtain ⟨ad, e, hc⟩ := Kd.at_int hC (j : Int) (by omega) (by omega)
          cases e
          rw [Int.toNat_natCast] at hc
          rw [hc]
          simp [rd, List.getD_eq_getElem?_getD, hx]
        · intro j hj
          rw [hlen] at hj
          have := (Kd.R_celln 0 HO119.out (j : Int) (by omega) (by rw [HL.out]; omega)).1
          rw [Int.toNat_natCast] at this
          rw [Nat.zero_add, this]
          rfl
        · intro j hj
          rw [hlen] at hj
          have := (Kd.R_celln 0 HO119.out (j : Int) (by omega) (by rw [HL.out]; omega)).2
          rw [Int.toNat_natCast] at this
          rw [Nat.zero_add]
          exact this
        · intro v hv
          obtain ⟨x, _, rfl⟩ := List.mem_map.1 hv
          rfl
      · have h := hput.1
        have e : y117.take 0 ++ l0 ++ y117.drop (0 + l0.length) = ld_full l0 0 := by
          rw [Ny117.out, HV.out, Int.toNat_natCast]
          unfold ld_full
          rw [List.take_zero, List.nil_append, Nat.zero_add, List.drop_replicate, Nat.add_sub_cancel_left]
          rfl
        rw [e] at h
        exact h
  obtain ⟨W1, hcp, hR1, hB1⟩ := hcp
  clear HO119 HB hR hg1 hgl HR0
  have HO := Aside0.mk hR1
  have HB := Aside0.mk hB1
  have GB := Aside0.mk hg0
  clear hR1 hB1 hg0
  go_wp2_with ((with_reducible refine gate_builtin (b := .copy) (xs := #[.tmp 9, .tmp 10]) rfl ?_); (try (refine gate_guard (by rfl) ?_; dsimp only)); at_builtin; refine ld_step rfl rfl rfl rfl hcp ?_)
  go_loopg [4] 10 (fun kq v4 w' => ∃ (x4 : Int) (j : Nat), v4 = .int .i64 x4 ∧ Aside0 (x4 = (l0.length : Int) + j) ∧ Aside0 (kq + j = 10) ∧ Aside0 (j ≤ 9) ∧ Aside0 (Kd.R (Kd.int .u8) 5 w' w.heap.size (fun _ => True) (.slice (some ⟨g, 0, none⟩) y117.length co7) (ld_full l0 j)) ∧ Aside0 (Below w.heap.size w w'))
  case atStart => exact ⟨(l0.length : Int), 0, (by first | rfl | (simp; done)), ⟨by omega⟩, ⟨rfl⟩, ⟨by omega⟩, ⟨by (with_reducible repeat (first | apply Kd.R_alloc | apply Kd.R_drewN | apply Kd.R_drew)); exact HO.out⟩, ⟨by repeat (first | (with_reducible first | exact HB.out | apply below_alloc | apply pw_below_drewN | apply below_drew1) | exact HB.out)⟩⟩
  case round =>
    clear HO HB hcp
    obtain ⟨x4, j, rfl, HX, HK, HJ, HO, HB⟩ := hrel
    have hx := HX.out
    have hk := HK.out
    have hj := HJ.out
    have hl := HL.out
    have hm := HM.out
    have hlen := ld_len l0 hj
    by_cases c : j < 9
    · have c8 : decide (x4 < (y117.length : Int)) = true := decide_eq_true (by omega)
      have p10 : 0 ≤ (x4 : Int) := by omega
      have q10 : (x4 : Int) < (y117.length : Int) := by omega
      obtain ⟨hx10_0, hf10_0⟩ := Kd.R_celln 0 HO.out (x4 : Int) p10 q10
      have HP := Kd.R_putg HO.out (x4 : Int) 165
      have e1 : (ld_full l0 j).set x4.toNat 165 = ld_full l0 (j + 1) := by
        rw [show x4.toNat = l0.length + j by omega]
        exact ld_next l0 c
      rw [e1] at HP
      have HP1 := Aside0.mk HP.1
      have HB1 := Aside0.mk (show Below w.heap.size w (wr.setCell ⟨g, x4.toNat, none⟩ (.int .u8 165)) from below_set HB.out GB.out)
      have hn : wrap64 (x4 + 1) = (l0.length : Int) + ((j + 1 : Nat) : Int) := by unfold wrap64; omega
      have HN := Aside0.mk hn
      obtain ⟨k1, hk1⟩ : ∃ m, gk = m + 1 := ⟨9 - j, by omega⟩
      have HK1 := Aside0.mk hk1
      have HC := Aside0.mk c
      replace p10 := eq_true p10
      replace q10 := eq_true q10
      clear HP e1 hn hk1 hx hk hj hl hm hlen HO HB c
      go_wp2
      go_roundg k1
      case measure => have := HK1.out; omega
      case rel => exact ⟨wrap64 (x4 + 1), j + 1, (by first | rfl | (simp; done) | (simp [*]; done)), HN, ⟨by have := HK.out; have := HK1.out; omega⟩, ⟨by have := HC.out; omega⟩, HP1, HB1⟩
    · have hj9 : j = 9 := by omega
      subst hj9
      have c8 : decide (x4 < (y117.length : Int)) = false := decide_eq_false (by omega)
      obtain ⟨i015, hi015, _, hsz15, _⟩ := info_parts info5
      have hcut := cut_to (P := Try.prog) 24 5 .i64 Try.underlying24 hi015 (some ⟨g, 0, none⟩) y117.length co7 (l0.length : Int) (by omega) (by omega) (Kd.R_reads' HO.out).2.1
      rw [Int.toNat_natCast] at hcut
      clear hi015 hsz15 hx hk hj hl hm hlen c
      go_wp2
      go_ret
      refine ⟨_, _, rfl, ?_, HB.out⟩
      have h := HO.out
      rw [HL.out] at h
      exact h

end Go.Proofs.Ytpehkbkbfpbolaa.PZ
