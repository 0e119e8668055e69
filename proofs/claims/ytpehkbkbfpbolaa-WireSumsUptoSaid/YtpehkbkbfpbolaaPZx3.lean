-- Written by wip/xprint.py, a driver of this session's own over the kit's printer; Lean checks it.
import Derived.Test.YtpehkbkbfpbolaaPZx0
namespace Go.Proofs.Ytpehkbkbfpbolaa.PZ
open Go.Proofs.YtpehkbkbfpbolaaM Go.RowKit Go.Proofs.YtpehkbkbfpbolaaW.PrintWords Go.Proofs.YtpehkbkbfpbolaaW.PrintLast Go.Proofs.YtpehkbkbfpbolaaW.PrintMore
attribute [local go_sem] max2_int min2_int max_two min_two max_three min_three max_four min_four   -- for this text's walks alone
set_option linter.unusedVariables false
set_option linter.unusedSimpArgs false

/-! ### wire_words: function 43 -/
def wire_words.f (a0 : Int) : Option (Int) := if (Int.tmod a0 32) > 0 then (some (wrap64 ((wrap64 (Int.tdiv a0 32)) + 1))) else (some (wrap64 (Int.tdiv a0 32)))
set_option maxHeartbeats 8000000 in
set_option maxRecDepth 100000 in
theorem wire_words.calls (a0 : Int) (r : Int) (w : World) (h : wire_words.f a0 = some r) :
    Calls Try.prog 43 #[.int .i64 a0] w fun e w' => e = .returned (.int .i64 r) ∧ Drawn0 w w' := by
  have H : (if (Int.tmod a0 32) > 0 then (some (wrap64 ((wrap64 (Int.tdiv a0 32)) + 1))) else (some (wrap64 (Int.tdiv a0 32)))) = some r := h
  clear h
  by_cases c2 : (Int.tmod a0 32) > 0
  · rw [if_pos c2] at H
    have c2b0 : decide (0 < (Int.tmod a0 32)) = true := decide_eq_true c2
    clear c2
    obtain rfl := Option.some.inj H
    go_enter Try.func43, Try.ntmps43
    go_wp2
    go_ret
    exact ⟨by first | rfl | (simp; done) | (simp [*]; done), by repeat (first | exact Drawn0.refl _ | apply Drawn0.step)⟩
  · rw [if_neg c2] at H
    have c2b0 : decide (0 < (Int.tmod a0 32)) = false := decide_eq_false c2
    clear c2
    obtain rfl := Option.some.inj H
    go_enter Try.func43, Try.ntmps43
    go_wp2
    go_ret
    exact ⟨by first | rfl | (simp; done) | (simp [*]; done), by repeat (first | exact Drawn0.refl _ | apply Drawn0.step)⟩

end Go.Proofs.Ytpehkbkbfpbolaa.PZ
