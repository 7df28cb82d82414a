/- Unlike units have unlike bytes. Plain, then the walk's end. -/
import Derived.Test.YtddaecdhielkkaaPdut
import Derived.Test.YtddaecdhielkkaaRowkit
import Derived.Test.YtddaecdhielkkaaF5
namespace Go.Proofs.Ytddaecdhielkkaa
open Go.RowKit Pr Go.Proofs.YtddaecdhielkkaaW.PrintWords Go.Proofs.YtddaecdhielkkaaW.PrintMore
set_option linter.unusedSimpArgs false
set_option linter.unusedVariables false

theorem PduUnlike_pure (k : Nat) (hk : 4000 ≤ k) (a0 a1 a2 a3 a4 : Int) (l5 : List Int) (a6 : Bool) (a7 : ByteArray) (b0 b1 b2 b3 b4 : Int) (m5 : List Int) (b6 : Bool) (b7 : ByteArray) : polliwoglaw06_PduUnlike.f k a0 a1 a2 a3 a4 l5 a6 a7 b0 b1 b2 b3 b4 m5 b6 b7 = some true := by
  have hn := num_few a2 a3 a4 l5
  have hm := num_few b2 b3 b4 m5
  have hd := cutB_size a7 210
  have he := cutB_size b7 210
  unfold polliwoglaw06_PduUnlike.f polliwoglaw06_awake.f
  simp only [Option.bind_some, if_true]
  rw [few_f k a0 a1 a2 a3 a4 l5 a6 a7 (by omega), few_f k b0 b1 b2 b3 b4 m5 b6 b7 (by omega)]
  simp only [Option.bind_some]
  generalize clI a2 = a2 at hn ⊢
  generalize clI a3 = a3 at hn ⊢
  generalize clI a4 = a4 at hn ⊢
  generalize fewL l5 = l5 at hn ⊢
  generalize cutB a7 210 = a7 at hd ⊢
  generalize clI b2 = b2 at hm ⊢
  generalize clI b3 = b3 at hm ⊢
  generalize clI b4 = b4 at hm ⊢
  generalize fewL m5 = m5 at hm ⊢
  generalize cutB b7 210 = b7 at he ⊢
  have hl := hn.len
  have hl2 := hm.len
  rw [refCheck_f k a0 a1 a2 a3 a4 l5 a6 a7 hn (by omega), refCheck_f k b0 b1 b2 b3 b4 m5 b6 b7 hm (by omega)]
  simp only [Option.bind_some]
  obtain ⟨k, rfl⟩ : ∃ m, k = m + 1 := ⟨k - 1, by omega⟩
  by_cases h : chkP a0 a1 a2 a3 a4 l5 a6 a7 = 0
  rotate_left
  · rw [if_neg h]
    simp only [polliwoglaw06_PduUnlike.j0, if_true]
  rw [if_pos h]
  simp only [polliwoglaw06_PduUnlike.j0]
  by_cases g : chkP b0 b1 b2 b3 b4 m5 b6 b7 = 0
  rotate_left
  · rw [if_pos (by simpa using g)]
  rw [if_neg (by simpa using g)]
  rw [own_f k a0 a1 a2 a3 a4 l5 a6 a7 hn (by omega), own_f k b0 b1 b2 b3 b4 m5 b6 b7 hm (by omega)]
  simp only [Option.bind_some]
  rw [bytes_f k a0 a1 a2 a3 a4 l5 a6 a7 (by omega) (by omega) (by omega), bytes_f k b0 b1 b2 b3 b4 m5 b6 b7 (by omega) (by omega) (by omega), if_pos h, if_pos g]
  simp only [Option.bind_some]
  rw [same_f k a0 a1 a2 a3 a4 l5 a6 a7 b0 b1 b2 b3 b4 m5 b6 b7 hn (by omega) (by omega)]
  simp only [Option.bind_some]
  congr 1
  rw [beq_iff_eq, Bool.eq_iff_iff]
  simp only [beq_iff_eq, decide_eq_true_eq, ByteArray.toList_eq]
  constructor
  · intro q
    exact bytesP_inj (may_of hn h) (may_of hm g) (by simpa using q)
  · rintro ⟨rfl, rfl, rfl, rfl, rfl, rfl, rfl, rfl⟩
    rfl
theorem PduUnlike_walk (a0 a1 a2 a3 a4 : Int) (A5 : Option Addr) (n5 c5 : Nat) (z5 : List Int) (a6 : Bool) (a7 : ByteArray) (b0 b1 b2 b3 b4 : Int) (B5 : Option Addr) (p5 d5 : Nat) (y5 : List Int) (b6 : Bool) (b7 : ByteArray) (w : World)
    (_ : (Lit.int .i64 a0).wf = true) (_ : (Lit.int .i64 a1).wf = true) (_ : (Lit.int .i64 a2).wf = true) (_ : (Lit.int .i64 a3).wf = true) (_ : (Lit.int .i64 a4).wf = true) (W5 : Rowkit.IsInts .i64 w A5 n5 c5 z5) (_ : a7.size ≤ maxLen)
    (_ : (Lit.int .i64 b0).wf = true) (_ : (Lit.int .i64 b1).wf = true) (_ : (Lit.int .i64 b2).wf = true) (_ : (Lit.int .i64 b3).wf = true) (_ : (Lit.int .i64 b4).wf = true) (V5 : Rowkit.IsInts .i64 w B5 p5 d5 y5) (_ : b7.size ≤ maxLen) :
    Calls Try.prog 5 #[.agg #[.int .i64 a0, .int .i64 a1, .int .i64 a2, .int .i64 a3, .int .i64 a4, .slice A5 n5 c5, .bool a6, .string a7], .agg #[.int .i64 b0, .int .i64 b1, .int .i64 b2, .int .i64 b3, .int .i64 b4, .slice B5 p5 d5, .bool b6, .string b7]] w fun e w' => e = .returned (.bool true) ∧ Below w.heap.size w w' := by
  obtain ⟨rfl, h1, h2, h3, h4⟩ := W5
  obtain ⟨rfl, g1, g2, g3, g4⟩ := V5
  exact polliwoglaw06_PduUnlike.calls 4000 a0 a1 a2 a3 a4 A5 c5 z5 a6 a7 b0 b1 b2 b3 b4 B5 d5 y5 b6 b7 true w h3 h1 g3 g1 (PduUnlike_pure 4000 (Nat.le_refl _) a0 a1 a2 a3 a4 z5 a6 a7 b0 b1 b2 b3 b4 y5 b6 b7)
end Go.Proofs.Ytddaecdhielkkaa
