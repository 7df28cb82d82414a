/- polliwogref06: which kinds, which numbers; which units may be. Plain: no walk. -/
import Derived.Test.YtddaecdhielkkaaPr0
import Derived.Test.YtddaecdhielkkaaAid
import Derived.Test.YtddaecdhielkkaaF42
import Derived.Test.YtddaecdhielkkaaFs
namespace Go.Proofs.Ytddaecdhielkkaa
open Go.RowKit Pr Go.Proofs.YtddaecdhielkkaaW.PrintWords Go.Proofs.YtddaecdhielkkaaW.PrintMore
set_option linter.unusedSimpArgs false
set_option linter.unusedVariables false

def mostI (k : Int) : Int := if k = 1 ∨ k = 3 ∨ k = 5 ∨ k = 7 then 64 else if k = 8 ∨ k = 13 ∨ k = 14 then 200 else 0
def sqB (k : Int) : Bool := decide (k = 1 ∨ k = 2 ∨ k = 3 ∨ k = 4 ∨ k = 5 ∨ k = 6 ∨ k = 7 ∨ k = 9 ∨ k = 15)
def nB (k : Int) : Bool := decide (k = 1 ∨ k = 2 ∨ k = 5 ∨ k = 6 ∨ k = 8 ∨ k = 9 ∨ k = 10 ∨ k = 11 ∨ k = 12 ∨ k = 15)
def psB (k : Int) : Bool := decide (k = 10 ∨ k = 11)
def mrB (k : Int) : Bool := decide (k = 11 ∨ k = 12)
theorem wrap_next (n : Nat) (h : n ≤ 1000000000) : wrap64 ((n : Int) + 1) = ((n + 1 : Nat) : Int) := by unfold wrap64; omega
theorem rd_at (l : List Int) (i : Nat) (h : i < l.length) : rd l (i : Int) = l[i] := by
  unfold rd
  simp [h]
theorem in_l0 (a : Int) (l : List Int) (hl : l.length ≤ 1000) : ∀ d k i : Nat, i + d = l.length → d < k → polliwogref06_in.l0 k a l (l.length : Int) (i : Int) = some (decide (a ∈ l.drop i))
  | 0, k, i, h, hk => by
    obtain ⟨k, rfl⟩ : ∃ m, k = m + 1 := ⟨k - 1, by omega⟩
    simp only [polliwogref06_in.l0]
    rw [if_neg (by omega), List.drop_of_length_le (by omega)]
    simp
  | d + 1, k, i, h, hk => by
    obtain ⟨k, rfl⟩ : ∃ m, k = m + 1 := ⟨k - 1, by omega⟩
    have hi : i < l.length := by omega
    simp only [polliwogref06_in.l0]
    rw [if_pos (by omega), if_pos (by omega), if_pos (by omega), rd_at l i hi, wrap_next i (by omega), in_l0 a l hl d k (i + 1) (by omega) (by omega), List.drop_eq_getElem_cons hi]
    by_cases e : l[i] = a
    · rw [if_pos e]
      congr 1
      exact (decide_eq_true (List.mem_cons.2 (.inl e.symm))).symm
    · rw [if_neg e]
      have : ¬ a = l[i] := fun q => e q.symm
      congr 1
      rw [Bool.eq_iff_iff]
      simp only [decide_eq_true_eq, List.mem_cons, this, false_or]
theorem in_f (k : Nat) (a : Int) (l : List Int) (hl : l.length ≤ 20) (hk : 20 < k) : polliwogref06_in.f k a l = some (decide (a ∈ l)) := by
  unfold polliwogref06_in.f
  have := in_l0 a l (by omega) l.length k 0 (by omega) (by omega)
  simpa using this
theorem hasSQ_f (k : Nat) (a : Int) (hk : 20 < k) : polliwogref06_HasSQ.f k a = some (sqB a) := by
  unfold polliwogref06_HasSQ.f
  rw [in_f k a _ (by decide) hk]
  simp [sqB]
theorem hasN_f (k : Nat) (a : Int) (hk : 20 < k) : polliwogref06_HasN.f k a = some (nB a) := by
  unfold polliwogref06_HasN.f
  rw [in_f k a _ (by decide) hk]
  simp [nB]
theorem most_f (k : Nat) (a : Int) (hk : 20 < k) : polliwogref06_Most.f k a = some (mostI a) := by
  unfold polliwogref06_Most.f mostI
  rw [in_f k a _ (by decide) hk, in_f k a _ (by decide) hk]
  simp only [Option.bind_some, List.mem_cons, List.not_mem_nil, or_false, decide_eq_true_eq]
  repeat' split
  all_goals rfl
def low24 (x : Int) : Bool := decide (0 ≤ x ∧ x < 16777216)
theorem refLow_f (x : Int) : polliwogref06_low.f x = some (low24 x) := by
  unfold polliwogref06_low.f low24
  by_cases h : 0 ≤ x <;> by_cases h2 : x < 16777216 <;> simp [h, h2]

section
variable (a0 a1 a2 a3 a4 : Int) (l5 : List Int) (a6 : Bool) (a7 : ByteArray)
def refB1 : Bool := (decide (0 < mostI a0) && decide (mostI a0 < (a7.size : Int))) || decide (128 < (l5.length : Int))
def refB2 : Bool := (decide (mostI a0 = 0) && !decide (a7.toList = [])) || !low24 a2 || !low24 a3 || !low24 a4 || decide (a1 < 0) || decide (255 < a1)
def refB3 : Bool := (!sqB a0 && !decide (a1 = 0)) || (!nB a0 && !decide (a2 = 0)) || (!decide (a0 = 3) && a6)
def refB4 : Bool := (!psB a0 && !decide (a3 = 0)) || (!mrB a0 && !decide (a4 = 0))
def refB5 : Bool := (decide (a0 = 11) && !decide ((l5.length : Int) % 2 = 0)) || (decide (a0 = 12) && !decide ((l5.length : Int) = 2)) || (!decide (a0 = 11) && !decide (a0 = 12) && decide (0 < (l5.length : Int)))
/-- 0, or the error's number. -/
def refI : Int := if a0 < 1 ∨ 15 < a0 then 10 else if refB1 a0 l5 a7 = true then 6 else if (refB2 a0 a1 a2 a3 a4 a7 || refB3 a0 a1 a2 a6 || refB4 a0 a3 a4 || refB5 a0 l5 || !l5.all low24) = true then 1 else 0
end
theorem bne_dec (x : Int) : (x != 0) = !decide (x = 0) := by rw [Bool.eq_iff_iff]; simp
theorem beq_dec (x : Int) : (x == 0) = decide (x = 0) := by rw [Bool.eq_iff_iff]; simp
theorem refLow_any (x : Int) (w : World) : Calls Try.prog 43 #[.int .i64 x] w fun e w' => e = .returned (.bool (low24 x)) ∧ ∃ n, w' = w.drewN n :=
  (polliwogref06_low.calls x _ w (refLow_f x)).mono fun _ _ ⟨he, hd⟩ => ⟨he, hd.out⟩
theorem sq_any (x : Int) (w : World) : Calls Try.prog 25 #[.int .i64 x] w fun e w' => e = .returned (.bool (sqB x)) ∧ Below w.heap.size w w' :=
  polliwogref06_HasSQ.calls 30 x _ w (hasSQ_f 30 x (by decide))
theorem n_any (x : Int) (w : World) : Calls Try.prog 44 #[.int .i64 x] w fun e w' => e = .returned (.bool (nB x)) ∧ Below w.heap.size w w' :=
  polliwogref06_HasN.calls 30 x _ w (hasN_f 30 x (by decide))
theorem most_any (x : Int) (w : World) : Calls Try.prog 42 #[.int .i64 x] w fun e w' => e = .returned (.int .i64 (mostI x)) ∧ Below w.heap.size w w' :=
  polliwogref06_Most.calls 30 x _ w (most_f 30 x (by decide))
theorem in_any (x a b : Int) (A : Option Addr) (c : Nat) (w : World) (hk : [a, b].length ≤ c) (hc : Kd.C (Kd.int .i64) w A [a, b].length [a, b]) : Calls Try.prog 45 #[.int .i64 x, .slice A [a, b].length c] w fun e w' => e = .returned (.bool (decide (x = a ∨ x = b))) ∧ ∃ n, w' = w.drewN n :=
  (polliwogref06_in.calls 30 x A c [a, b] _ w hc hk (by rw [in_f 30 x _ (by simp) (by decide)]; simp)).mono fun _ _ ⟨he, hd⟩ => ⟨he, hd.out⟩
theorem in2_any (x a b : Int) (A : Option Addr) (w : World) (hc : Kd.C (Kd.int .i64) w A 2 [a, b]) : Calls Try.prog 45 #[.int .i64 x, .slice A 2 2] w fun e w' => e = .returned (.bool (decide (x = a ∨ x = b))) ∧ ∃ n, w' = w.drewN n :=
  (polliwogref06_in.calls 30 x A 2 [a, b] _ w hc (by simp) (by rw [in_f 30 x _ (by simp) (by decide)]; simp)).mono fun _ _ ⟨he, hd⟩ => ⟨he, hd.out⟩
end Go.Proofs.Ytddaecdhielkkaa
