/- Each kind has its word; what is none has none. Plain, then the walk's end. -/
import Derived.Test.YtddaecdhielkkaaF7
import Derived.Test.YtddaecdhielkkaaName
namespace Go.Proofs.Ytddaecdhielkkaa
open Go.RowKit Pr Go.Proofs.YtddaecdhielkkaaW.PrintWords
set_option linter.unusedSimpArgs false
set_option linter.unusedVariables false

theorem shape_none (a0 : Int) (k : Nat) (h : a0 < 1 ∨ 15 < a0) : pdu_shapeOf.f (k + 4) a0 = some (0, false, false, 0, false, false, false, false) := by
  have h1 : ¬ a0 = 1 := by omega
  have h2 : ¬ a0 = 2 := by omega
  have h3 : ¬ a0 = 3 := by omega
  have h4 : ¬ a0 = 4 := by omega
  have h5 : ¬ a0 = 5 := by omega
  have h6 : ¬ a0 = 6 := by omega
  have h7 : ¬ a0 = 7 := by omega
  have h8 : ¬ a0 = 8 := by omega
  have h9 : ¬ a0 = 9 := by omega
  have h10 : ¬ a0 = 10 := by omega
  have h11 : ¬ a0 = 11 := by omega
  have h12 : ¬ a0 = 12 := by omega
  have h13 : ¬ a0 = 13 := by omega
  have h14 : ¬ a0 = 14 := by omega
  have h15 : ¬ a0 = 15 := by omega
  simp [pdu_shapeOf.f, pdu_shapeOf.j0, pdu_shapeOf.j1, pdu_shapeOf.j2, h1, h2, h3, h4, h5, h6, h7, h8, h9, h10, h11, h12, h13, h14, h15]
theorem names_out (a0 : Int) (h : a0 < 1 ∨ 15 < a0) : polliwoglaw06_PduNames.f 20 a0 = some true := by
  have hn : pdu_PDU_Name.f 20 a0 0 0 0 0 [] false ⟨#[]⟩ = some ⟨#[]⟩ := by
    unfold pdu_PDU_Name.f
    rw [shape_none a0 16 h]
    rfl
  have hn' : pdu_PDU_Name.f 19 a0 0 0 0 0 [] false ⟨#[]⟩ = some ⟨#[]⟩ := by
    unfold pdu_PDU_Name.f
    rw [shape_none a0 15 h]
    rfl
  unfold polliwoglaw06_PduNames.f polliwoglaw06_awake.f
  simp only [Option.bind_some, if_true]
  rcases h with h | h
  · rw [if_neg (by omega), hn]
    simp [ByteArray.toList_eq]
  · rw [if_pos (by omega), if_neg (by omega)]
    simp only [polliwoglaw06_PduNames.j0, hn', Option.bind_some]
    simp
theorem PduNames_pure (a0 : Int) : polliwoglaw06_PduNames.f 20 a0 = some true := by
  by_cases h : 1 ≤ a0 ∧ a0 ≤ 15
  · have hs : a0 = 1 ∨ a0 = 2 ∨ a0 = 3 ∨ a0 = 4 ∨ a0 = 5 ∨ a0 = 6 ∨ a0 = 7 ∨ a0 = 8 ∨ a0 = 9 ∨ a0 = 10 ∨ a0 = 11 ∨ a0 = 12 ∨ a0 = 13 ∨ a0 = 14 ∨ a0 = 15 := by omega
    rcases hs with rfl | rfl | rfl | rfl | rfl | rfl | rfl | rfl | rfl | rfl | rfl | rfl | rfl | rfl | rfl <;> decide +kernel
  · exact names_out a0 (by omega)
theorem PduNames_walk (a0 : Int) (w : World) (_ : (Lit.int .i64 a0).wf = true) :
    Calls Try.prog 7 #[.int .i64 a0] w fun e w' => e = .returned (.bool true) ∧ Below w.heap.size w w' :=
  polliwoglaw06_PduNames.calls 20 a0 true w (PduNames_pure a0)
end Go.Proofs.Ytddaecdhielkkaa
