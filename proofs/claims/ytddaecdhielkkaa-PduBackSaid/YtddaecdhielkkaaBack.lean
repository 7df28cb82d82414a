/- Which units may be is as the document says; their bytes are the document's, and come back. Plain, then the walk's end. -/
import Derived.Test.YtddaecdhielkkaaPdut
import Derived.Test.YtddaecdhielkkaaParc
import Derived.Test.YtddaecdhielkkaaRowkit
import Derived.Test.YtddaecdhielkkaaF4
namespace Go.Proofs.Ytddaecdhielkkaa
open Go.RowKit Pr Go.Proofs.YtddaecdhielkkaaW.PrintWords Go.Proofs.YtddaecdhielkkaaW.PrintMore
set_option linter.unusedSimpArgs false
set_option linter.unusedVariables false

theorem PduBack_pure (k : Nat) (hk : 4000 ≤ k) (a0 a1 a2 a3 a4 : Int) (l5 : List Int) (a6 : Bool) (a7 : ByteArray) : polliwoglaw06_PduBack.f k a0 a1 a2 a3 a4 l5 a6 a7 = some true := by
  have hn := num_few a2 a3 a4 l5
  have hd := cutB_size a7 210
  unfold polliwoglaw06_PduBack.f polliwoglaw06_awake.f
  simp only [Option.bind_some, if_true]
  rw [few_f k a0 a1 a2 a3 a4 l5 a6 a7 (by omega)]
  simp only [Option.bind_some]
  generalize clI a2 = a2 at hn ⊢
  generalize clI a3 = a3 at hn ⊢
  generalize clI a4 = a4 at hn ⊢
  generalize fewL l5 = l5 at hn ⊢
  generalize cutB a7 210 = a7 at hd ⊢
  have hl := hn.len
  rw [own_f k a0 a1 a2 a3 a4 l5 a6 a7 hn (by omega)]
  simp only [Option.bind_some]
  obtain ⟨k, rfl⟩ : ∃ m, k = m + 4 := ⟨k - 4, by omega⟩
  rw [check_f k a0 a1 a2 a3 a4 l5 a6 a7, refCheck_f (k + 4) a0 a1 a2 a3 a4 l5 a6 a7 hn (by omega)]
  simp only [Option.bind_some, if_true]
  rw [bytes_f (k + 4) a0 a1 a2 a3 a4 l5 a6 a7 (by omega) (by omega) (by omega), refBytes_f (k + 4) a0 a1 a2 a3 a4 l5 a6 a7 hn (by omega)]
  simp only [Option.bind_some, polliwoglaw06_PduBack.j0]
  rw [if_neg (by simp), refCheck_f (k + 3) a0 a1 a2 a3 a4 l5 a6 a7 hn (by omega)]
  simp only [Option.bind_some]
  by_cases h : chkP a0 a1 a2 a3 a4 l5 a6 a7 = 0
  · rw [if_pos h, bytes_f (k + 3) a0 a1 a2 a3 a4 l5 a6 a7 (by omega) (by omega) (by omega), if_pos h]
    simp only [Option.bind_some]
    rw [parse_f (k + 3) a0 a1 a2 a3 a4 l5 a6 a7 hn h]
    simp only [Option.bind_some, if_true]
    rw [same_f (k + 3) a0 a1 a2 a3 a4 l5 a6 a7 a0 a1 a2 a3 a4 l5 a6 a7 hn (by omega) (by omega)]
    simp only [Option.bind_some, and_self, decide_true, if_true]
    rw [bytesP_base, baseW_size, List.length_append]
    congr 1
    rw [beq_iff_eq]
    simp only [List.length_singleton]
    unfold padN
    omega
  · rw [if_neg h]
theorem PduBack_walk (a0 a1 a2 a3 a4 : Int) (A5 : Option Addr) (n5 c5 : Nat) (z5 : List Int) (a6 : Bool) (a7 : ByteArray) (w : World) (_ : (Lit.int .i64 a0).wf = true) (_ : (Lit.int .i64 a1).wf = true) (_ : (Lit.int .i64 a2).wf = true) (_ : (Lit.int .i64 a3).wf = true) (_ : (Lit.int .i64 a4).wf = true)
    (W5 : Rowkit.IsInts .i64 w A5 n5 c5 z5) (_ : a7.size ≤ maxLen) :
    Calls Try.prog 4 #[.agg #[.int .i64 a0, .int .i64 a1, .int .i64 a2, .int .i64 a3, .int .i64 a4, .slice A5 n5 c5, .bool a6, .string a7]] w fun e w' => e = .returned (.bool true) ∧ Below w.heap.size w w' := by
  obtain ⟨rfl, h1, h2, h3, h4⟩ := W5
  exact polliwoglaw06_PduBack.calls 4000 a0 a1 a2 a3 a4 A5 c5 z5 a6 a7 true w h3 h1 (PduBack_pure 4000 (Nat.le_refl _) a0 a1 a2 a3 a4 z5 a6 a7)
end Go.Proofs.Ytddaecdhielkkaa
