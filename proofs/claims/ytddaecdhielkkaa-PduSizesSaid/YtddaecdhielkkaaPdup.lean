/- What the functions of pdu and of its reference give: which units may be. Plain: no walk. -/
import Derived.Test.YtddaecdhielkkaaPduq
import Derived.Test.YtddaecdhielkkaaF20
import Derived.Test.YtddaecdhielkkaaF17
import Derived.Test.YtddaecdhielkkaaF18
namespace Go.Proofs.Ytddaecdhielkkaa
open Go.RowKit Pr Go.Proofs.YtddaecdhielkkaaW.PrintWords Go.Proofs.YtddaecdhielkkaaW.PrintMore
set_option linter.unusedSimpArgs false
set_option linter.unusedVariables false

/-! A kind's shape. -/
def mostI (k : Int) : Int := if k = 1 ∨ k = 3 ∨ k = 5 ∨ k = 7 then 64 else if k = 8 ∨ k = 13 ∨ k = 14 then 200 else 0
def sqB (k : Int) : Bool := decide (k = 1 ∨ k = 2 ∨ k = 3 ∨ k = 4 ∨ k = 5 ∨ k = 6 ∨ k = 7 ∨ k = 9 ∨ k = 15)
def nB (k : Int) : Bool := decide (k = 1 ∨ k = 2 ∨ k = 5 ∨ k = 6 ∨ k = 8 ∨ k = 9 ∨ k = 10 ∨ k = 11 ∨ k = 12 ∨ k = 15)
def lsI (k : Int) : Int := if k = 11 then -1 else if k = 12 then 2 else 0
def psB (k : Int) : Bool := decide (k = 10 ∨ k = 11)
def mrB (k : Int) : Bool := decide (k = 11 ∨ k = 12)
def sfB (k : Int) : Bool := decide (k = 3)
theorem kinds15 {k : Int} (h : 1 ≤ k ∧ k ≤ 15) : k = 1 ∨ k = 2 ∨ k = 3 ∨ k = 4 ∨ k = 5 ∨ k = 6 ∨ k = 7 ∨ k = 8 ∨ k = 9 ∨ k = 10 ∨ k = 11 ∨ k = 12 ∨ k = 13 ∨ k = 14 ∨ k = 15 := by omega
theorem shape_in (k : Nat) (a : Int) (h : 1 ≤ a ∧ a ≤ 15) : pdu_shapeOf.f (k + 4) a = some (mostI a, sqB a, nB a, lsI a, psB a, mrB a, sfB a, true) := by
  rcases kinds15 h with rfl | rfl | rfl | rfl | rfl | rfl | rfl | rfl | rfl | rfl | rfl | rfl | rfl | rfl | rfl <;> rfl
theorem shape_out (k : Nat) (a : Int) (h : a < 1 ∨ 15 < a) : pdu_shapeOf.f (k + 4) a = some (0, false, false, 0, false, false, false, false) := by
  have h1 : ¬ a = 1 := by omega
  have h2 : ¬ a = 2 := by omega
  have h3 : ¬ a = 3 := by omega
  have h4 : ¬ a = 4 := by omega
  have h5 : ¬ a = 5 := by omega
  have h6 : ¬ a = 6 := by omega
  have h7 : ¬ a = 7 := by omega
  have h8 : ¬ a = 8 := by omega
  have h9 : ¬ a = 9 := by omega
  have h10 : ¬ a = 10 := by omega
  have h11 : ¬ a = 11 := by omega
  have h12 : ¬ a = 12 := by omega
  have h13 : ¬ a = 13 := by omega
  have h14 : ¬ a = 14 := by omega
  have h15 : ¬ a = 15 := by omega
  simp [pdu_shapeOf.f, pdu_shapeOf.j0, pdu_shapeOf.j1, pdu_shapeOf.j2, h1, h2, h3, h4, h5, h6, h7, h8, h9, h10, h11, h12, h13, h14, h15]

/-! May it be? -/
def chkP (a0 a1 a2 a3 a4 : Int) (l5 : List Int) (a6 : Bool) (a7 : ByteArray) : Int :=
  if 1 ≤ a0 ∧ a0 ≤ 15 then chkI (mostI a0) (sqB a0) (nB a0) (lsI a0) (psB a0) (mrB a0) (sfB a0) true a1 a2 a3 a4 l5 a6 a7 else 10
theorem check_f (k : Nat) (a0 a1 a2 a3 a4 : Int) (l5 : List Int) (a6 : Bool) (a7 : ByteArray) : pdu_PDU_Check.f (k + 4) a0 a1 a2 a3 a4 l5 a6 a7 = some (chkP a0 a1 a2 a3 a4 l5 a6 a7) := by
  unfold pdu_PDU_Check.f chkP
  by_cases h : 1 ≤ a0 ∧ a0 ≤ 15
  · rw [shape_in k a0 h, if_pos h]
    rfl
  · rw [shape_out k a0 (by omega), if_neg h]
    rfl
theorem wrap_next (n : Nat) (h : n ≤ 1000000000) : wrap64 ((n : Int) + 1) = ((n + 1 : Nat) : Int) := by unfold wrap64; omega
theorem rd_at (l : List Int) (i : Nat) (h : i < l.length) : rd l (i : Int) = l[i] := by
  unfold rd
  simp [h]
theorem in_l0 (a : Int) (l : List Int) (hl : l.length ≤ 1000) : ∀ d k i : Nat, i + d = l.length → d < k → polliwogref06_in.l0 k a l (l.length : Int) (i : Int) = some (decide (a ∈ l.drop i))
  | 0, k, i, h, hk => by
    obtain ⟨k, rfl⟩ : ∃ m, k = m + 1 := ⟨k - 1, by omega⟩
    simp only [polliwogref06_in.l0]
    rw [if_neg (by omega), List.drop_of_length_le (by omega)]
    simp
  | d + 1, k, i, h, hk => by
    obtain ⟨k, rfl⟩ : ∃ m, k = m + 1 := ⟨k - 1, by omega⟩
    have hi : i < l.length := by omega
    simp only [polliwogref06_in.l0]
    rw [if_pos (by omega), if_pos (by omega), if_pos (by omega), rd_at l i hi, wrap_next i (by omega), in_l0 a l hl d k (i + 1) (by omega) (by omega), List.drop_eq_getElem_cons hi]
    by_cases e : l[i] = a
    · rw [if_pos e]
      congr 1
      exact (decide_eq_true (List.mem_cons.2 (.inl e.symm))).symm
    · rw [if_neg e]
      have : ¬ a = l[i] := fun q => e q.symm
      congr 1
      rw [Bool.eq_iff_iff]
      simp only [decide_eq_true_eq, List.mem_cons, this, false_or]
theorem in_f (k : Nat) (a : Int) (l : List Int) (hl : l.length ≤ 20) (hk : 20 < k) : polliwogref06_in.f k a l = some (decide (a ∈ l)) := by
  unfold polliwogref06_in.f
  have := in_l0 a l (by omega) l.length k 0 (by omega) (by omega)
  simpa using this
theorem hasSQ_f (k : Nat) (a : Int) (hk : 20 < k) : polliwogref06_HasSQ.f k a = some (sqB a) := by
  unfold polliwogref06_HasSQ.f
  rw [in_f k a _ (by decide) hk]
  simp [sqB]
theorem hasN_f (k : Nat) (a : Int) (hk : 20 < k) : polliwogref06_HasN.f k a = some (nB a) := by
  unfold polliwogref06_HasN.f
  rw [in_f k a _ (by decide) hk]
  simp [nB]
theorem most_f (k : Nat) (a : Int) (hk : 20 < k) : polliwogref06_Most.f k a = some (mostI a) := by
  unfold polliwogref06_Most.f mostI
  rw [in_f k a _ (by decide) hk, in_f k a _ (by decide) hk]
  simp only [Option.bind_some, List.mem_cons, List.not_mem_nil, or_false, decide_eq_true_eq]
  repeat' split
  all_goals rfl
def low24 (x : Int) : Bool := decide (0 ≤ x ∧ x < 16777216)
theorem refLow_f (x : Int) : polliwogref06_low.f x = some (low24 x) := by
  unfold polliwogref06_low.f low24
  by_cases h : 0 ≤ x <;> by_cases h2 : x < 16777216 <;> simp [h, h2]
theorem lowB_24 (x : Int) (h0 : 0 ≤ x) (h1 : x < 4294967296) : lowB x = low24 x := by
  unfold lowB low24
  have := and32 24 (by decide) x h0 h1
  rw [show ((2 : Int) ^ 24 - 1) = 16777215 by decide] at this
  rw [this, Bool.eq_iff_iff]
  simp only [beq_iff_eq, decide_eq_true_eq]
  omega
theorem refList (l : List Int) (hl : l.length ≤ 1000) : ∀ d k i : Nat, i + d = l.length → d < k → polliwogref06_Check.l0 k l (l.length : Int) (i : Int) = some (if (l.drop i).all low24 = true then 0 else 1)
  | 0, k, i, h, hk => by
    obtain ⟨k, rfl⟩ : ∃ m, k = m + 1 := ⟨k - 1, by omega⟩
    simp only [polliwogref06_Check.l0]
    rw [if_neg (by omega), List.drop_of_length_le (by omega)]
    rfl
  | d + 1, k, i, h, hk => by
    obtain ⟨k, rfl⟩ : ∃ m, k = m + 1 := ⟨k - 1, by omega⟩
    have hi : i < l.length := by omega
    simp only [polliwogref06_Check.l0]
    rw [if_pos (by omega), if_pos (by omega), if_pos (by omega), rd_at l i hi, refLow_f, wrap_next i (by omega), refList l hl d k (i + 1) (by omega) (by omega)]
    simp only [Option.bind_some]
    have e : (l.drop i).all low24 = (low24 l[i] && (l.drop (i + 1)).all low24) := by rw [List.drop_eq_getElem_cons hi, List.all_cons]
    by_cases hb : low24 l[i] = true
    · have e2 : (l.drop i).all low24 = (l.drop (i + 1)).all low24 := by rw [e, hb, Bool.true_and]
      rw [if_pos hb, e2]
    · have e2 : (l.drop i).all low24 = false := by rw [e, Bool.eq_false_iff.2 hb, Bool.false_and]
      rw [if_neg hb, e2]
      rfl
section
variable (k : Nat) (a0 a1 a2 a3 a4 : Int) (l5 : List Int) (a6 : Bool) (a7 : ByteArray)
def refB1 : Bool := (decide (0 < mostI a0) && decide (mostI a0 < (a7.size : Int))) || decide (128 < (l5.length : Int))
def refB2 : Bool := (decide (mostI a0 = 0) && !decide (a7.toList = [])) || !low24 a2 || !low24 a3 || !low24 a4 || decide (a1 < 0) || decide (255 < a1)
def refB3 : Bool := (!sqB a0 && !decide (a1 = 0)) || (!nB a0 && !decide (a2 = 0)) || (!decide (a0 = 3) && a6)
def refB4 : Bool := (!psB a0 && !decide (a3 = 0)) || (!mrB a0 && !decide (a4 = 0))
def refB5 : Bool := (decide (a0 = 11) && !decide ((l5.length : Int) % 2 = 0)) || (decide (a0 = 12) && !decide ((l5.length : Int) = 2)) || (!decide (a0 = 11) && !decide (a0 = 12) && decide (0 < (l5.length : Int)))
theorem ref_j0 (b : Bool) (hk : 20 < k) : polliwogref06_Check.j0 (k + 1) b a0 a1 a2 a3 a4 l5 a6 a7 = if b = true then some 10 else polliwogref06_Check.j1 k (mostI a0) (refB1 a0 l5 a7) a0 a1 a2 a3 a4 l5 a6 a7 := by
  simp only [polliwogref06_Check.j0]
  rw [most_f k a0 hk]
  unfold refB1
  by_cases h1 : 0 < mostI a0 <;> by_cases h2 : mostI a0 < (a7.size : Int) <;> simp [h1, h2]
theorem ref_j1 (b : Bool) : polliwogref06_Check.j1 (k + 1) (mostI a0) b a0 a1 a2 a3 a4 l5 a6 a7 = if b = true then some 6 else polliwogref06_Check.j2 k (refB2 a0 a1 a2 a3 a4 a7) a0 a1 a2 a3 a4 l5 a6 a7 := by
  simp only [polliwogref06_Check.j1, refLow_f, Option.bind_some]
  unfold refB2
  by_cases h1 : mostI a0 = 0 <;> by_cases h2 : a7.toList = [] <;> by_cases h3 : a1 < 0 <;> cases low24 a2 <;> cases low24 a3 <;> cases low24 a4 <;> simp [h1, h2, h3]
theorem ref_j2 (b : Bool) (hk : 20 < k) : polliwogref06_Check.j2 (k + 1) b a0 a1 a2 a3 a4 l5 a6 a7 = if b = true then some 1 else polliwogref06_Check.j3 k (refB3 a0 a1 a2 a6) a0 a1 a2 a3 a4 l5 a6 a7 := by
  simp only [polliwogref06_Check.j2]
  rw [hasSQ_f k a0 hk, hasN_f k a0 hk]
  simp only [Option.bind_some]
  unfold refB3
  by_cases h1 : a1 = 0 <;> by_cases h2 : a2 = 0 <;> by_cases h3 : a0 = 3 <;> cases sqB a0 <;> cases nB a0 <;> simp [h1, h2, h3]
theorem bne_dec (x : Int) : (x != 0) = !decide (x = 0) := by rw [Bool.eq_iff_iff]; simp
theorem beq_dec (x : Int) : (x == 0) = decide (x = 0) := by rw [Bool.eq_iff_iff]; simp
theorem ref_j3 (b : Bool) (hk : 20 < k) : polliwogref06_Check.j3 (k + 1) b a0 a1 a2 a3 a4 l5 a6 a7 = if b = true then some 1 else polliwogref06_Check.j4 k (refB4 a0 a3 a4) a0 a1 a2 a3 a4 l5 a6 a7 := by
  simp only [polliwogref06_Check.j3, bne_dec]
  rw [in_f k a0 _ (by decide) hk, in_f k a0 _ (by decide) hk]
  have e1 : decide (a0 ∈ ([10, 11] : List Int)) = psB a0 := by simp [psB]
  have e2 : decide (a0 ∈ ([11, 12] : List Int)) = mrB a0 := by simp [mrB]
  rw [e1, e2]
  simp only [Option.bind_some]
  unfold refB4
  by_cases h1 : a3 = 0 <;> by_cases h2 : a4 = 0 <;> cases psB a0 <;> cases mrB a0 <;> simp [h1, h2]
theorem ref_j4 (b : Bool) : polliwogref06_Check.j4 (k + 1) b a0 a1 a2 a3 a4 l5 a6 a7 = if b = true then some 1 else polliwogref06_Check.j5 k (refB5 a0 l5) a0 a1 a2 a3 a4 l5 a6 a7 := by
  simp only [polliwogref06_Check.j4]
  unfold refB5
  by_cases h1 : a0 = 11
  · subst h1
    by_cases h2 : (l5.length : Int) % 2 = 0 <;> simp [h2]
  · by_cases h2 : a0 = 12
    · subst h2
      by_cases h3 : (l5.length : Int) = 2 <;> simp [h3]
    · simp [h1, h2]
theorem ref_chain (hl : l5.length ≤ 1000) (hk : 2000 ≤ k) : polliwogref06_Check.f k a0 a1 a2 a3 a4 l5 a6 a7 =
    some (if a0 < 1 ∨ 15 < a0 then 10 else if refB1 a0 l5 a7 = true then 6 else if (refB2 a0 a1 a2 a3 a4 a7 || refB3 a0 a1 a2 a6 || refB4 a0 a3 a4 || refB5 a0 l5 || !l5.all low24) = true then 1 else 0) := by
  obtain ⟨k, rfl⟩ : ∃ m, k = m + 6 := ⟨k - 6, by omega⟩
  have e : polliwogref06_Check.f (k + 6) a0 a1 a2 a3 a4 l5 a6 a7 = polliwogref06_Check.j0 (k + 6) (decide (a0 < 1 ∨ 15 < a0)) a0 a1 a2 a3 a4 l5 a6 a7 := by
    unfold polliwogref06_Check.f
    by_cases h : a0 < 1
    · simp [h]
    · simp [h]
  rw [e, ref_j0 (k + 5) a0 a1 a2 a3 a4 l5 a6 a7 _ (by omega), ref_j1, ref_j2 (k + 3) a0 a1 a2 a3 a4 l5 a6 a7 _ (by omega), ref_j3 (k + 2) a0 a1 a2 a3 a4 l5 a6 a7 _ (by omega), ref_j4]
  have hl0 := refList l5 hl l5.length k 0 (by omega) (by omega)
  simp only [polliwogref06_Check.j5]
  rw [show (0 : Int) = ((0 : Nat) : Int) from rfl, hl0]
  rw [List.drop_zero]
  simp only [decide_eq_true_eq]
  by_cases h : a0 < 1 ∨ 15 < a0
  · simp [h]
  · cases refB1 a0 l5 a7 <;> cases refB2 a0 a1 a2 a3 a4 a7 <;> cases refB3 a0 a1 a2 a6 <;> cases refB4 a0 a3 a4 <;> cases refB5 a0 l5 <;> cases l5.all low24 <;> simp [h]
end
theorem all_low (l : List Int) (h : ∀ x ∈ l, 0 ≤ x ∧ x < 4294967296) : l.all lowB = l.all low24 := by
  induction l with
  | nil => rfl
  | cons a l ih =>
    rw [List.all_cons, List.all_cons, ih (fun x hx => h x (List.mem_cons_of_mem _ hx)), lowB_24 a (h a List.mem_cons_self).1 (h a List.mem_cons_self).2]
/-- A unit's numbers are whole numbers of 32 bits. -/
structure Num32 (a2 a3 a4 : Int) (l5 : List Int) : Prop where
  n0 : 0 ≤ a2
  n1 : a2 < 4294967296
  p0 : 0 ≤ a3
  p1 : a3 < 4294967296
  m0 : 0 ≤ a4
  m1 : a4 < 4294967296
  l : ∀ x ∈ l5, 0 ≤ x ∧ x < 4294967296
  len : l5.length ≤ 140
theorem refCheck_f (k : Nat) (a0 a1 a2 a3 a4 : Int) (l5 : List Int) (a6 : Bool) (a7 : ByteArray) (hn : Num32 a2 a3 a4 l5) (hk : 2000 ≤ k) : polliwogref06_Check.f k a0 a1 a2 a3 a4 l5 a6 a7 = some (chkP a0 a1 a2 a3 a4 l5 a6 a7) := by
  rw [ref_chain k a0 a1 a2 a3 a4 l5 a6 a7 (by have := hn.len; omega) hk]
  congr 1
  unfold chkP
  by_cases h : 1 ≤ a0 ∧ a0 ≤ 15
  · rw [if_neg (by omega), if_pos h]
    unfold chkI okAll
    rw [lowB_24 a2 hn.n0 hn.n1, lowB_24 a3 hn.p0 hn.p1, lowB_24 a4 hn.m0 hn.m1, all_low l5 hn.l]
    have eb : okBig l5.length (mostI a0) a7.size = refB1 a0 l5 a7 := by
      unfold okBig refB1
      cases decide (0 < mostI a0) <;> cases decide (mostI a0 < (a7.size : Int)) <;> rfl
    have ea : okArg (okList l5.length (lsI a0)) (low24 a2 && low24 a3 && low24 a4 && l5.all low24) (okSome (mostI a0) (nB a0) (psB a0) (mrB a0) (sfB a0) a2 a3 a4 a6 a7) (sqB a0) a1 = (refB2 a0 a1 a2 a3 a4 a7 || refB3 a0 a1 a2 a6 || refB4 a0 a3 a4 || refB5 a0 l5 || !l5.all low24) := by
      have hem : a7.toList.isEmpty = decide (a7.toList = []) := by cases a7.toList <;> rfl
      unfold okArg okSome refB2 refB3 refB4 refB5 okList
      rw [hem]
      generalize low24 a2 = b2
      generalize low24 a3 = b3
      generalize low24 a4 = b4
      generalize l5.all low24 = b5
      generalize decide (a7.toList = []) = b7
      generalize l5.length = n
      generalize decide (a1 < 0) = c1
      generalize decide (255 < a1) = c2
      rw [bne_dec a1, beq_dec a2, beq_dec a3, beq_dec a4]
      generalize decide (a1 = 0) = c3
      generalize decide (a2 = 0) = d2
      generalize decide (a3 = 0) = d3
      generalize decide (a4 = 0) = d4
      have g0 : decide ((n : Int) = -1) = false := decide_eq_false (by omega)
      have g1 : decide ((n : Int) = 0) = !decide (0 < (n : Int)) := by rw [Bool.eq_iff_iff]; simp
      have gN : decide (0 < n) = !decide (n = 0) := by rw [Bool.eq_iff_iff]; simp; omega
      have g2 : ((n : Int) % 2 == 0) = decide ((n : Int) % 2 = 0) := by rw [Bool.eq_iff_iff]; simp
      rcases kinds15 h with rfl | rfl | rfl | rfl | rfl | rfl | rfl | rfl | rfl | rfl | rfl | rfl | rfl | rfl | rfl
      all_goals
        simp only [mostI, sqB, nB, lsI, psB, mrB, sfB]
        simp [g0, g1, g2]
        try (cases b2 <;> cases b3 <;> cases b4 <;> cases b5 <;> cases b7 <;> cases c1 <;> cases c2 <;> simp <;> (try simp only [gN]) <;> ac_rfl)
    rw [eb, ea]
    rfl
  · rw [if_pos (by omega), if_neg h]
end Go.Proofs.Ytddaecdhielkkaa
