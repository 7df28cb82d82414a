/- Each unit's bytes are as many as its data, rounded up to words, and its words. Plain, then the walk's end. -/
import Derived.Test.YtddaecdhielkkaaPdut
import Derived.Test.YtddaecdhielkkaaRowkit
import Derived.Test.YtddaecdhielkkaaF6
namespace Go.Proofs.Ytddaecdhielkkaa
open Go.RowKit Pr Go.Proofs.YtddaecdhielkkaaW.PrintWords Go.Proofs.YtddaecdhielkkaaW.PrintMore
set_option linter.unusedSimpArgs false
set_option linter.unusedVariables false

theorem sizes_j0 (k : Nat) (n a0 a1 a2 a3 a4 : Int) (l5 : List Int) (a6 : Bool) (a7 : ByteArray) (h0 : 0 ≤ n) (h1 : n ≤ 1000) :
    polliwoglaw06_PduSizes.j0 (k + 4) n a0 a1 a2 a3 a4 l5 a6 a7 = polliwoglaw06_PduSizes.j4 k (n + (if psB a0 = true then 1 else 0) + (if mrB a0 = true then 1 else 0)) a0 a1 a2 a3 a4 l5 a6 a7 := by
  have e1 : wrap64 (n + 1) = n + 1 := by unfold wrap64; omega
  have e2 : wrap64 (n + 1 + 1) = n + 1 + 1 := by unfold wrap64; omega
  simp only [polliwoglaw06_PduSizes.j0, polliwoglaw06_PduSizes.j1, polliwoglaw06_PduSizes.j2, polliwoglaw06_PduSizes.j3, e1, e2]
  by_cases h10 : a0 = 10
  · subst h10
    simp [psB, mrB]
  · by_cases h11 : a0 = 11
    · subst h11
      simp [psB, mrB, e2]
    · by_cases h12 : a0 = 12
      · subst h12
        simp [psB, mrB]
      · simp [psB, mrB, h10, h11, h12]
theorem w64 (x : Int) (h0 : -1000000 ≤ x) (h1 : x ≤ 1000000) : wrap64 x = x := by unfold wrap64; omega
theorem opt1 (b : Bool) (x : Int) : ((if b = true then [x] else []).length : Int) = if b = true then 1 else 0 := by cases b <;> rfl
theorem bytesP_len (a0 a1 a2 a3 a4 : Int) (l5 : List Int) (a6 : Bool) (a7 : ByteArray) :
    (((bytesP a0 a1 a2 a3 a4 l5 a6 a7).length : Nat) : Int) = (a7.size : Int) + (padN a7.size : Int) + 4 * ((if sqB a0 = true then 1 else 0) + (l5.length : Int) + (if psB a0 = true then 1 else 0) + (if mrB a0 = true then 1 else 0)) + 4 := by
  have h := congrArg ByteArray.size (bytesP_base a0 a1 a2 a3 a4 l5 a6 a7)
  rw [size_mk', baseW_size, List.length_append] at h
  rw [h]
  unfold wordsL
  simp only [List.length_append, List.length_singleton]
  have o1 := opt1 (sqB a0) (a1 % 4294967296)
  have o2 := opt1 (psB a0) a3
  have o3 := opt1 (mrB a0) a4
  omega
theorem PduSizes_pure (k : Nat) (hk : 4000 ≤ k) (a0 a1 a2 a3 a4 : Int) (l5 : List Int) (a6 : Bool) (a7 : ByteArray) : polliwoglaw06_PduSizes.f k a0 a1 a2 a3 a4 l5 a6 a7 = some true := by
  have hn := num_few a2 a3 a4 l5
  have hl := hn.len
  have hd := cutB_size a7 210
  unfold polliwoglaw06_PduSizes.f polliwoglaw06_awake.f
  simp only [Option.bind_some, if_true]
  rw [few_f k a0 a1 a2 a3 a4 l5 a6 a7 (by omega)]
  simp only [Option.bind_some]
  generalize clI a2 = b2 at hn ⊢
  generalize clI a3 = b3 at hn ⊢
  generalize clI a4 = b4 at hn ⊢
  generalize fewL l5 = m5 at hn hl ⊢
  generalize cutB a7 210 = b7 at hd ⊢
  rw [refCheck_f k a0 a1 b2 b3 b4 m5 a6 b7 hn (by omega)]
  simp only [Option.bind_some]
  by_cases h : chkP a0 a1 b2 b3 b4 m5 a6 b7 = 0
  · rw [if_pos h, hasSQ_f k a0 (by omega)]
    simp only [Option.bind_some]
    have e1 : wrap64 (1 + (m5.length : Int)) = 1 + (m5.length : Int) := by unfold wrap64; omega
    have e2 : wrap64 (1 + (m5.length : Int) + 1) = 1 + (m5.length : Int) + 1 := by unfold wrap64; omega
    have key : ∀ n : Int, n = 1 + (if sqB a0 = true then 1 else 0) + (m5.length : Int) → polliwoglaw06_PduSizes.j0 k n a0 a1 b2 b3 b4 m5 a6 b7 = some true := by
      intro n hnn
      have hb : (if sqB a0 = true then (1 : Int) else 0) = 0 ∨ (if sqB a0 = true then (1 : Int) else 0) = 1 := by cases sqB a0 <;> simp
      obtain ⟨k, rfl⟩ : ∃ m, k = m + 5 := ⟨k - 5, by omega⟩
      rw [sizes_j0 (k + 1) n a0 a1 b2 b3 b4 m5 a6 b7 (by omega) (by omega)]
      have hp : (if psB a0 = true then (1 : Int) else 0) = 0 ∨ (if psB a0 = true then (1 : Int) else 0) = 1 := by cases psB a0 <;> simp
      have hm : (if mrB a0 = true then (1 : Int) else 0) = 0 ∨ (if mrB a0 = true then (1 : Int) else 0) = 1 := by cases mrB a0 <;> simp
      simp only [polliwoglaw06_PduSizes.j4]
      rw [own_f k a0 a1 b2 b3 b4 m5 a6 b7 hn (by omega)]
      simp only [Option.bind_some]
      rw [bytes_f k a0 a1 b2 b3 b4 m5 a6 b7 (by omega) (by omega) (by omega), if_pos h]
      simp only [Option.bind_some]
      rw [size_mk', bytesP_len]
      congr 1
      rw [beq_iff_eq]
      have ht : Int.tdiv (wrap64 ((b7.size : Int) + 3)) 4 = ((b7.size : Int) + 3) / 4 := by
        rw [show wrap64 ((b7.size : Int) + 3) = (b7.size : Int) + 3 by unfold wrap64; omega]
        exact Int.tdiv_eq_ediv_of_nonneg (by omega)
      rw [ht]
      have hpad : (padN b7.size : Int) = (4 - (b7.size : Int) % 4) % 4 := by unfold padN; omega
      have hq0 : 0 ≤ ((b7.size : Int) + 3) / 4 ∧ ((b7.size : Int) + 3) / 4 ≤ 60 := by omega
      generalize hQ : ((b7.size : Int) + 3) / 4 = Q at hq0
      generalize hB : (if sqB a0 = true then (1 : Int) else 0) = B at hb hnn
      generalize hP : (if psB a0 = true then (1 : Int) else 0) = P at hp
      generalize hM : (if mrB a0 = true then (1 : Int) else 0) = M at hm
      have hn9 : 0 ≤ n ∧ n ≤ 1000 := by omega
      rw [w64 Q (by omega) (by omega), w64 (Q * 4) (by omega) (by omega), w64 (4 * (n + P + M)) (by omega) (by omega), w64 (Q * 4 + 4 * (n + P + M)) (by omega) (by omega), hpad]
      have hQ2 : (b7.size : Int) + (4 - (b7.size : Int) % 4) % 4 = Q * 4 := by omega
      omega
    rw [e1, e2]
    cases hs : sqB a0
    · rw [hs] at key
      exact key _ (by simp)
    · rw [hs] at key
      exact key _ (by simp; omega)
  · rw [if_neg h, own_f k a0 a1 b2 b3 b4 m5 a6 b7 hn (by omega)]
    simp only [Option.bind_some]
    rw [bytes_f k a0 a1 b2 b3 b4 m5 a6 b7 (by omega) (by omega) (by omega), if_neg h]
    rfl
theorem PduSizes_walk (a0 a1 a2 a3 a4 : Int) (A5 : Option Addr) (n5 c5 : Nat) (z5 : List Int) (a6 : Bool) (a7 : ByteArray) (w : World) (_ : (Lit.int .i64 a0).wf = true) (_ : (Lit.int .i64 a1).wf = true) (_ : (Lit.int .i64 a2).wf = true) (_ : (Lit.int .i64 a3).wf = true) (_ : (Lit.int .i64 a4).wf = true)
    (W5 : Rowkit.IsInts .i64 w A5 n5 c5 z5) (_ : a7.size ≤ maxLen) :
    Calls Try.prog 6 #[.agg #[.int .i64 a0, .int .i64 a1, .int .i64 a2, .int .i64 a3, .int .i64 a4, .slice A5 n5 c5, .bool a6, .string a7]] w fun e w' => e = .returned (.bool true) ∧ Below w.heap.size w w' := by
  obtain ⟨rfl, h1, h2, h3, h4⟩ := W5
  exact polliwoglaw06_PduSizes.calls 4000 a0 a1 a2 a3 a4 A5 c5 z5 a6 a7 true w h3 h1 (PduSizes_pure 4000 (Nat.le_refl _) a0 a1 a2 a3 a4 z5 a6 a7)
end Go.Proofs.Ytddaecdhielkkaa
