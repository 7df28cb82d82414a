/- More data are no fewer cells. Plain, then the walk's end. -/
import Derived.Test.YtjbnihaekgmhlaaDoorRowkit
import Derived.Test.YtjbnihaekgmhlaaDoorF8
namespace Go.Proofs.YtjbnihaekgmhlaaDoor
open Go.RowKit Pr Go.Proofs.YtjbnihaekgmhlaaDoorW.PrintWords
set_option linter.unusedVariables false
set_option linter.unusedSimpArgs false
theorem FrameCells_walk (a0 : Int) (w : World) (h : (Lit.int .i64 a0).wf = true) :
    Calls Tryd.prog 8 #[.int .i64 a0] w fun e w' => e = .returned (.bool true) ∧ Below w.heap.size w w' := by
  have hb := bounds_i64 h
  refine polliwoglaw05_FrameCells.calls a0 true w ?_
  unfold polliwoglaw05_FrameCells.f
  obtain ⟨M, hM⟩ : ∃ M, mn (mx a0 0) 1099511627776 = M := ⟨_, rfl⟩
  have hM0 : 0 ≤ M ∧ M ≤ 1099511627776 ∧ max (mn a0 1099511627776) 0 = M := by unfold mn mx at *; omega
  obtain ⟨h0, h1, h2⟩ := hM0
  have hn : mn a0 1099511627776 ≤ 4611686018427387904 := by unfold mn; omega
  have e0 : frame_Cells.f (mn a0 1099511627776) = some (M / 48 + (M % 48 + 7) / 48 + 1) := by
    unfold frame_Cells.f cellsI
    rw [if_pos hn, h2]
  have e1 : frame_Cells.f (M + 1) = some ((M + 1) / 48 + ((M + 1) % 48 + 7) / 48 + 1) := by
    unfold frame_Cells.f cellsI
    rw [if_pos (by omega), show max (M + 1) 0 = M + 1 by omega]
  have e2 : frame_Cells.f (M + 48) = some ((M + 48) / 48 + ((M + 48) % 48 + 7) / 48 + 1) := by
    unfold frame_Cells.f cellsI
    rw [if_pos (by omega), show max (M + 48) 0 = M + 48 by omega]
  unfold polliwoglaw05_awake.f
  simp only [Option.bind_some, if_true]
  rw [hM, e0, e1, e2]
  simp only [Option.bind_some]
  obtain ⟨C, hC⟩ : ∃ C, M / 48 + (M % 48 + 7) / 48 + 1 = C := ⟨_, rfl⟩
  obtain ⟨D, hD⟩ : ∃ D, (M + 1) / 48 + ((M + 1) % 48 + 7) / 48 + 1 = D := ⟨_, rfl⟩
  obtain ⟨E, hE⟩ : ∃ E, (M + 48) / 48 + ((M + 48) % 48 + 7) / 48 + 1 = E := ⟨_, rfl⟩
  rw [hC, hD, hE]
  have c1 : M + 8 ≤ 48 * C ∧ 48 * C < M + 8 + 48 ∧ 1 ≤ C := by omega
  have c2 : C ≤ D := by omega
  have c3 : E = C + 1 := by omega
  clear hC hD hE e0 e1 e2 hn h2 hM hb h
  rw [wrapS (48 * C) (by omega) (by omega), wrapS (C - 1) (by omega) (by omega), wrapS (48 * (C - 1)) (by omega) (by omega), wrapS (C + 1) (by omega) (by omega), if_pos (by omega), if_pos (by omega), if_pos (by omega), c3]
  simp
end Go.Proofs.YtjbnihaekgmhlaaDoor
