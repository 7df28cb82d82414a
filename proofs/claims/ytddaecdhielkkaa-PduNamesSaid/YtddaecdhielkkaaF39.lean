-- written by a program of this session (wip/pp.py) out of the translation
import Derived.Test.YtddaecdhielkkaaPr0
import Derived.Test.YtddaecdhielkkaaF27
namespace Go.Proofs.Ytddaecdhielkkaa.Pr
open Go.RowKit Go.Proofs.YtddaecdhielkkaaW.PrintWords Go.Proofs.YtddaecdhielkkaaW.PrintLast Go.Proofs.YtddaecdhielkkaaW.PrintMore
attribute [local go_sem] max2_int min2_int max_two min_two max_three min_three max_four min_four   -- for this text's walks alone
set_option linter.unusedVariables false
set_option linter.unusedSimpArgs false

/-! ### pdu_low: function 39 -/
def pdu_low.f (a0 : Int) : Option (Bool) := (seq_Num_Low.f a0).bind fun t126 => (some (a0 == t126))
set_option maxHeartbeats 8000000 in
set_option maxRecDepth 100000 in
theorem pdu_low.calls (a0 : Int) (r : Bool) (w : World) (h : pdu_low.f a0 = some r) :
  Calls Try.prog 39 #[.int .u32 a0] w fun e w' => e = .returned (.bool r) ∧ Drawn0 w w' := by
 have H : ((seq_Num_Low.f a0).bind fun t126 => (some (a0 == t126))) = some r := h
 clear h
 replace H := Option.bind_eq_some_iff.mp H
 obtain ⟨t126, A20, H⟩ := H
 replace H : (some (a0 == t126)) = some r := H
 have A2 := Aside0.mk A20
 clear A20
 obtain rfl := Option.some.inj H
 go_enter Try.func39, Try.ntmps39
 go_wp2_with (first | ((with_reducible refine gate_callee (f := 27) rfl ?_); refine goesL_ (some 5) rfl rfl Try.func27 (by kernel_rfl) rfl #[.int .u32 a0] rfl (by (try simp only [List.map_toArray, List.map_cons, List.map_nil]); first | done | rfl | (simp only [List.length_drop, List.length_take]; rfl)) ?_; (with_reducible refine (seq_Num_Low.calls a0 t126 _ A2.out).mono ?_); rintro e w' ⟨rfl, ⟨nd, rfl⟩⟩; refine ⟨_, rfl, ?_⟩))
 go_ret
 exact ⟨by first | rfl | (simp; done) | (simp [*]; done), by repeat (first | exact Drawn0.refl _ | apply Drawn0.step)⟩

end Go.Proofs.Ytddaecdhielkkaa.Pr
