/- A unit's frame has as few cells as it needs: plain, then the walk's end. -/
import Derived.Test.YtjbnihaekgmhlaaDoorWirq
import Derived.Test.YtjbnihaekgmhlaaDoorFrma
import Derived.Test.YtjbnihaekgmhlaaDoorRowkit
import Derived.Test.YtjbnihaekgmhlaaDoorF12
namespace Go.Proofs.YtjbnihaekgmhlaaDoor
open Go.RowKit Pr Go.Proofs.YtjbnihaekgmhlaaDoorW.PrintWords Go.Proofs.YtjbnihaekgmhlaaDoorW.PrintMore
set_option linter.unusedSimpArgs false
set_option linter.unusedVariables false

theorem WireSizes_pure (k : Nat) (hk : 4000 ≤ k) (a0 a1 a2 a3 a4 : Int) (l5 : List Int) (a6 : Bool) (a7 : ByteArray) : polliwoglaw07_WireSizes.f k a0 a1 a2 a3 a4 l5 a6 a7 = some true := by
  have hn := num_few a2 a3 a4 l5
  have hd := cutB_size a7 210
  have hfl := fewL_len l5
  unfold polliwoglaw07_WireSizes.f polliwoglaw07_awake.f
  simp only [Option.bind_some, if_true]
  rw [few_f k a0 a1 a2 a3 a4 l5 a6 a7 (by omega)]
  simp only [Option.bind_some]
  generalize clI a2 = a2 at hn ⊢
  generalize clI a3 = a3 at hn ⊢
  generalize clI a4 = a4 at hn ⊢
  generalize fewL l5 = l5 at hn hfl ⊢
  generalize cutB a7 210 = a7 at hd ⊢
  rw [own_f k a0 a1 a2 a3 a4 l5 a6 a7 hn (by omega)]
  simp only [Option.bind_some]
  rw [bytes_f k a0 a1 a2 a3 a4 l5 a6 a7 (by omega) (by omega) (by omega), refCheck_f k a0 a1 a2 a3 a4 l5 a6 a7 hn (by omega), size_f k a0 a1 a2 a3 a4 l5 a6 a7 hfl hd (by omega)]
  simp only [Option.bind_some]
  by_cases h : chkP a0 a1 a2 a3 a4 l5 a6 a7 = 0
  · have hs := size_may (a0 := a0) (a1 := a1) (a2 := a2) (a3 := a3) (a4 := a4) (a6 := a6) hfl hd
    simp only [if_pos h]
    generalize (⟨(bytesP a0 a1 a2 a3 a4 l5 a6 a7).toArray⟩ : ByteArray).size = n at hs ⊢
    have hc := cells_bd (n : Int) (by omega) (by omega)
    unfold frame_Cells.f
    rw [if_pos (show (n : Int) ≤ 4611686018427387904 by omega)]
    simp only [Option.bind_some]
    rw [w64q ((n : Int) + 8) (by omega) (by omega), w64q ((n : Int) + 8 + 48) (by omega) (by omega), w64q (48 * cellsI n) (by omega) (by omega), Int.tmod_eq_emod_of_nonneg (by omega)]
    rw [if_pos (by omega), if_pos (by omega), if_pos (by omega)]
    simp
  · simp only [if_neg h]
    simp
    rfl
theorem WireSizes_walk (a0 a1 a2 a3 a4 : Int) (A5 : Option Addr) (n5 c5 : Nat) (z5 : List Int) (a6 : Bool) (a7 : ByteArray) (w : World) (_ : (Lit.int .i64 a0).wf = true) (_ : (Lit.int .i64 a1).wf = true) (_ : (Lit.int .i64 a2).wf = true) (_ : (Lit.int .i64 a3).wf = true) (_ : (Lit.int .i64 a4).wf = true)
    (W5 : Rowkit.IsInts .i64 w A5 n5 c5 z5) (_ : a7.size ≤ maxLen) :
    Calls Tryd.prog 12 #[.agg #[.int .i64 a0, .int .i64 a1, .int .i64 a2, .int .i64 a3, .int .i64 a4, .slice A5 n5 c5, .bool a6, .string a7]] w fun e w' => e = .returned (.bool true) ∧ Below w.heap.size w w' := by
  obtain ⟨rfl, h1, h2, h3, h4⟩ := W5
  exact polliwoglaw07_WireSizes.calls 4000 a0 a1 a2 a3 a4 A5 c5 z5 a6 a7 true w h3 h1 (WireSizes_pure 4000 (Nat.le_refl _) a0 a1 a2 a3 a4 z5 a6 a7)
end Go.Proofs.YtjbnihaekgmhlaaDoor
