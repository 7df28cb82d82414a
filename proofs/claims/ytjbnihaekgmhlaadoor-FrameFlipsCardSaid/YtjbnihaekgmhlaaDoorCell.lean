/- frame.Cells at this translation: its walk. -/
import Derived.Test.YtjbnihaekgmhlaaDoorPr0
import Derived.Test.YtjbnihaekgmhlaaDoorAid
import Derived.WalkKit
import Derived.Lib.Hide
namespace Go.Proofs.YtjbnihaekgmhlaaDoor
open Go.RowKit Pr Go.Proofs.YtjbnihaekgmhlaaDoorW.PrintWords
set_option linter.unusedVariables false
set_option linter.unusedSimpArgs false

/-- Of how many cells. -/
def cellsI (n : Int) : Int := max n 0 / 48 + (max n 0 % 48 + 7) / 48 + 1
theorem wrapS (x : Int) (h0 : 0 ≤ x) (h1 : x ≤ 4611686018427387904) : wrap64 x = x := by unfold wrap64; omega
def frame_Cells.f (a0 : Int) : Option Int := if a0 ≤ 4611686018427387904 then some (cellsI a0) else none
set_option maxHeartbeats 4000000 in
theorem frame_Cells.calls (a0 : Int) (r : Int) (w : World) (h : frame_Cells.f a0 = some r) :
    Calls Tryd.prog 30 #[.int .i64 a0] w fun e w' => e = .returned (.int .i64 r) ∧ Below w.heap.size w w' := by
  unfold frame_Cells.f at h
  split at h
  · rename_i hb
    have hr := Option.some.inj h
    clear h
    have hc : cellsI a0 = max a0 0 / 48 + (max a0 0 % 48 + 7) / 48 + 1 := rfl
    rw [hc] at hr
    obtain ⟨m, hm⟩ : ∃ m, max a0 0 = m := ⟨_, rfl⟩
    rw [hm] at hr
    have h0 : 0 ≤ m := by omega
    have h1 : m ≤ 4611686018427387904 := by omega
    have HM := Lib.hid hm
    have HR := Lib.hid hr
    clear hc hm hr hb
    go_enter Tryd.func30, Tryd.ntmps30
    go_wp2
    all_goals
      go_ret
      refine ⟨congrArg (fun z => Ending.returned (.int .i64 z)) ?_, Below.refl _ _⟩
      have hm := HM.out
      have hr := HR.out
      clear HM HR
    · obtain rfl : m = 0 := by omega
      rw [wrapS 0 (by omega) (by omega), wrapS 0 (by omega) (by omega), wrapS (0 + 1) (by omega) (by omega)]
      omega
    · obtain rfl : m = a0 := by omega
      rw [Int.tdiv_eq_ediv_of_nonneg (by omega), wrapS (m / 48) (by omega) (by omega), wrapS (m / 48 + (m % 48 + 8 - 1) / 48) (by omega) (by omega), wrapS (m / 48 + (m % 48 + 8 - 1) / 48 + 1) (by omega) (by omega)]
      omega
  · simp at h
end Go.Proofs.YtjbnihaekgmhlaaDoor
