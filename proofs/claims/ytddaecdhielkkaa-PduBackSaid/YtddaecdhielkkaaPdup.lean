/- What the functions of pdu and of its reference give: which units may be. Plain: no walk. -/
import Derived.Test.YtddaecdhielkkaaPduq
import Derived.Test.YtddaecdhielkkaaRchk
import Derived.Test.YtddaecdhielkkaaF17
import Derived.Test.YtddaecdhielkkaaF18
namespace Go.Proofs.Ytddaecdhielkkaa
open Go.RowKit Pr Go.Proofs.YtddaecdhielkkaaW.PrintWords Go.Proofs.YtddaecdhielkkaaW.PrintMore
set_option linter.unusedSimpArgs false
set_option linter.unusedVariables false

/-! A kind's shape. -/
def lsI (k : Int) : Int := if k = 11 then -1 else if k = 12 then 2 else 0
def sfB (k : Int) : Bool := decide (k = 3)
theorem kinds15 {k : Int} (h : 1 ≤ k ∧ k ≤ 15) : k = 1 ∨ k = 2 ∨ k = 3 ∨ k = 4 ∨ k = 5 ∨ k = 6 ∨ k = 7 ∨ k = 8 ∨ k = 9 ∨ k = 10 ∨ k = 11 ∨ k = 12 ∨ k = 13 ∨ k = 14 ∨ k = 15 := by omega
theorem shape_in (k : Nat) (a : Int) (h : 1 ≤ a ∧ a ≤ 15) : pdu_shapeOf.f (k + 4) a = some (mostI a, sqB a, nB a, lsI a, psB a, mrB a, sfB a, true) := by
  rcases kinds15 h with rfl | rfl | rfl | rfl | rfl | rfl | rfl | rfl | rfl | rfl | rfl | rfl | rfl | rfl | rfl <;> rfl
theorem shape_out (k : Nat) (a : Int) (h : a < 1 ∨ 15 < a) : pdu_shapeOf.f (k + 4) a = some (0, false, false, 0, false, false, false, false) := by
  have h1 : ¬ a = 1 := by omega
  have h2 : ¬ a = 2 := by omega
  have h3 : ¬ a = 3 := by omega
  have h4 : ¬ a = 4 := by omega
  have h5 : ¬ a = 5 := by omega
  have h6 : ¬ a = 6 := by omega
  have h7 : ¬ a = 7 := by omega
  have h8 : ¬ a = 8 := by omega
  have h9 : ¬ a = 9 := by omega
  have h10 : ¬ a = 10 := by omega
  have h11 : ¬ a = 11 := by omega
  have h12 : ¬ a = 12 := by omega
  have h13 : ¬ a = 13 := by omega
  have h14 : ¬ a = 14 := by omega
  have h15 : ¬ a = 15 := by omega
  simp [pdu_shapeOf.f, pdu_shapeOf.j0, pdu_shapeOf.j1, pdu_shapeOf.j2, h1, h2, h3, h4, h5, h6, h7, h8, h9, h10, h11, h12, h13, h14, h15]

/-! May it be? -/
def chkP (a0 a1 a2 a3 a4 : Int) (l5 : List Int) (a6 : Bool) (a7 : ByteArray) : Int :=
  if 1 ≤ a0 ∧ a0 ≤ 15 then chkI (mostI a0) (sqB a0) (nB a0) (lsI a0) (psB a0) (mrB a0) (sfB a0) true a1 a2 a3 a4 l5 a6 a7 else 10
theorem check_f (k : Nat) (a0 a1 a2 a3 a4 : Int) (l5 : List Int) (a6 : Bool) (a7 : ByteArray) : pdu_PDU_Check.f (k + 4) a0 a1 a2 a3 a4 l5 a6 a7 = some (chkP a0 a1 a2 a3 a4 l5 a6 a7) := by
  unfold pdu_PDU_Check.f chkP
  by_cases h : 1 ≤ a0 ∧ a0 ≤ 15
  · rw [shape_in k a0 h, if_pos h]
    rfl
  · rw [shape_out k a0 (by omega), if_neg h]
    rfl
theorem lowB_24 (x : Int) (h0 : 0 ≤ x) (h1 : x < 4294967296) : lowB x = low24 x := by
  unfold lowB low24
  have := and32 24 (by decide) x h0 h1
  rw [show ((2 : Int) ^ 24 - 1) = 16777215 by decide] at this
  rw [this, Bool.eq_iff_iff]
  simp only [beq_iff_eq, decide_eq_true_eq]
  omega
theorem all_low (l : List Int) (h : ∀ x ∈ l, 0 ≤ x ∧ x < 4294967296) : l.all lowB = l.all low24 := by
  induction l with
  | nil => rfl
  | cons a l ih =>
    rw [List.all_cons, List.all_cons, ih (fun x hx => h x (List.mem_cons_of_mem _ hx)), lowB_24 a (h a List.mem_cons_self).1 (h a List.mem_cons_self).2]
/-- A unit's numbers are whole numbers of 32 bits. -/
structure Num32 (a2 a3 a4 : Int) (l5 : List Int) : Prop where
  n0 : 0 ≤ a2
  n1 : a2 < 4294967296
  p0 : 0 ≤ a3
  p1 : a3 < 4294967296
  m0 : 0 ≤ a4
  m1 : a4 < 4294967296
  l : ∀ x ∈ l5, 0 ≤ x ∧ x < 4294967296
  len : l5.length ≤ 140
theorem refCheck_f (k : Nat) (a0 a1 a2 a3 a4 : Int) (l5 : List Int) (a6 : Bool) (a7 : ByteArray) (hn : Num32 a2 a3 a4 l5) (hk : 2000 ≤ k) : polliwogref06_Check.f k a0 a1 a2 a3 a4 l5 a6 a7 = some (chkP a0 a1 a2 a3 a4 l5 a6 a7) := by
  unfold polliwogref06_Check.f
  rw [if_pos (by have := hn.len; omega)]
  congr 1
  unfold refI chkP
  by_cases h : 1 ≤ a0 ∧ a0 ≤ 15
  · rw [if_neg (by omega), if_pos h]
    unfold chkI okAll
    rw [lowB_24 a2 hn.n0 hn.n1, lowB_24 a3 hn.p0 hn.p1, lowB_24 a4 hn.m0 hn.m1, all_low l5 hn.l]
    have eb : okBig l5.length (mostI a0) a7.size = refB1 a0 l5 a7 := by
      unfold okBig refB1
      cases decide (0 < mostI a0) <;> cases decide (mostI a0 < (a7.size : Int)) <;> rfl
    have ea : okArg (okList l5.length (lsI a0)) (low24 a2 && low24 a3 && low24 a4 && l5.all low24) (okSome (mostI a0) (nB a0) (psB a0) (mrB a0) (sfB a0) a2 a3 a4 a6 a7) (sqB a0) a1 = (refB2 a0 a1 a2 a3 a4 a7 || refB3 a0 a1 a2 a6 || refB4 a0 a3 a4 || refB5 a0 l5 || !l5.all low24) := by
      have hem : a7.toList.isEmpty = decide (a7.toList = []) := by cases a7.toList <;> rfl
      unfold okArg okSome refB2 refB3 refB4 refB5 okList
      rw [hem]
      generalize low24 a2 = b2
      generalize low24 a3 = b3
      generalize low24 a4 = b4
      generalize l5.all low24 = b5
      generalize decide (a7.toList = []) = b7
      generalize l5.length = n
      generalize decide (a1 < 0) = c1
      generalize decide (255 < a1) = c2
      rw [bne_dec a1, beq_dec a2, beq_dec a3, beq_dec a4]
      generalize decide (a1 = 0) = c3
      generalize decide (a2 = 0) = d2
      generalize decide (a3 = 0) = d3
      generalize decide (a4 = 0) = d4
      have g0 : decide ((n : Int) = -1) = false := decide_eq_false (by omega)
      have g1 : decide ((n : Int) = 0) = !decide (0 < (n : Int)) := by rw [Bool.eq_iff_iff]; simp
      have gN : decide (0 < n) = !decide (n = 0) := by rw [Bool.eq_iff_iff]; simp; omega
      have g2 : ((n : Int) % 2 == 0) = decide ((n : Int) % 2 = 0) := by rw [Bool.eq_iff_iff]; simp
      rcases kinds15 h with rfl | rfl | rfl | rfl | rfl | rfl | rfl | rfl | rfl | rfl | rfl | rfl | rfl | rfl | rfl
      all_goals
        simp only [mostI, sqB, nB, lsI, psB, mrB, sfB]
        simp [g0, g1, g2]
        try (cases b2 <;> cases b3 <;> cases b4 <;> cases b5 <;> cases b7 <;> cases c1 <;> cases c2 <;> simp <;> (try simp only [gN]) <;> ac_rfl)
    rw [eb, ea]
    rfl
  · rw [if_pos (by omega), if_neg h]
end Go.Proofs.Ytddaecdhielkkaa
