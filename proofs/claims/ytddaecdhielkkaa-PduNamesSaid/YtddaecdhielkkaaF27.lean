-- written by a program of this session (wip/pp.py) out of the translation
import Derived.Test.YtddaecdhielkkaaPr0
namespace Go.Proofs.Ytddaecdhielkkaa.Pr
open Go.RowKit Go.Proofs.YtddaecdhielkkaaW.PrintWords Go.Proofs.YtddaecdhielkkaaW.PrintLast Go.Proofs.YtddaecdhielkkaaW.PrintMore
attribute [local go_sem] max2_int min2_int max_two min_two max_three min_three max_four min_four   -- for this text's walks alone
set_option linter.unusedVariables false
set_option linter.unusedSimpArgs false

/-! ### seq_Num_Low: function 27 -/
def seq_Num_Low.f (a0 : Int) : Option (Int) := some (Go.bits .and .u32 a0 16777215)
set_option maxHeartbeats 8000000 in
set_option maxRecDepth 100000 in
theorem seq_Num_Low.calls (a0 : Int) (r : Int) (w : World) (h : seq_Num_Low.f a0 = some r) :
  Calls Try.prog 27 #[.int .u32 a0] w fun e w' => e = .returned (.int .u32 r) ∧ Drawn0 w w' := by
 have H : (some (Go.bits .and .u32 a0 16777215)) = some r := h
 clear h
 obtain rfl := Option.some.inj H
 go_enter Try.func27, Try.ntmps27
 go_wp2
 go_ret
 exact ⟨by first | rfl | (simp; done) | (simp [*]; done), by repeat (first | exact Drawn0.refl _ | apply Drawn0.step)⟩

end Go.Proofs.Ytddaecdhielkkaa.Pr
