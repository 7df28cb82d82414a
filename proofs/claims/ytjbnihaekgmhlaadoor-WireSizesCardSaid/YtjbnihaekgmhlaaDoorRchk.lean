/- polliwogref06.Check at this translation: its walk, by hand. -/
import Derived.Test.YtjbnihaekgmhlaaDoorPr0
import Derived.Test.YtjbnihaekgmhlaaDoorAid
import Derived.Test.YtjbnihaekgmhlaaDoorF61
import Derived.Test.YtjbnihaekgmhlaaDoorFs
import Derived.WalkKit
import Derived.Lib.Hide
import Derived.Deep.DeepCutAuto
import Derived.Test.YtjbnihaekgmhlaaDoorChkc
namespace Go.Proofs.YtjbnihaekgmhlaaDoor
open Go.RowKit Pr Go.Proofs.YtjbnihaekgmhlaaDoorW.PrintWords Go.Proofs.YtjbnihaekgmhlaaDoorW.PrintMore
set_option linter.unusedSimpArgs false
set_option linter.unusedVariables false

def mostI (k : Int) : Int := if k = 1 ∨ k = 3 ∨ k = 5 ∨ k = 7 then 64 else if k = 8 ∨ k = 13 ∨ k = 14 then 200 else 0
def sqB (k : Int) : Bool := decide (k = 1 ∨ k = 2 ∨ k = 3 ∨ k = 4 ∨ k = 5 ∨ k = 6 ∨ k = 7 ∨ k = 9 ∨ k = 15)
def nB (k : Int) : Bool := decide (k = 1 ∨ k = 2 ∨ k = 5 ∨ k = 6 ∨ k = 8 ∨ k = 9 ∨ k = 10 ∨ k = 11 ∨ k = 12 ∨ k = 15)
def psB (k : Int) : Bool := decide (k = 10 ∨ k = 11)
def mrB (k : Int) : Bool := decide (k = 11 ∨ k = 12)
theorem wrap_next (n : Nat) (h : n ≤ 1000000000) : wrap64 ((n : Int) + 1) = ((n + 1 : Nat) : Int) := by unfold wrap64; omega
theorem rd_at (l : List Int) (i : Nat) (h : i < l.length) : rd l (i : Int) = l[i] := by
  unfold rd
  simp [h]
theorem in_l0 (a : Int) (l : List Int) (hl : l.length ≤ 1000) : ∀ d k i : Nat, i + d = l.length → d < k → polliwogref06_in.l0 k a l (l.length : Int) (i : Int) = some (decide (a ∈ l.drop i))
  | 0, k, i, h, hk => by
    obtain ⟨k, rfl⟩ : ∃ m, k = m + 1 := ⟨k - 1, by omega⟩
    simp only [polliwogref06_in.l0]
    rw [if_neg (by omega), List.drop_of_length_le (by omega)]
    simp
  | d + 1, k, i, h, hk => by
    obtain ⟨k, rfl⟩ : ∃ m, k = m + 1 := ⟨k - 1, by omega⟩
    have hi : i < l.length := by omega
    simp only [polliwogref06_in.l0]
    rw [if_pos (by omega), if_pos (by omega), if_pos (by omega), rd_at l i hi, wrap_next i (by omega), in_l0 a l hl d k (i + 1) (by omega) (by omega), List.drop_eq_getElem_cons hi]
    by_cases e : l[i] = a
    · rw [if_pos e]
      congr 1
      exact (decide_eq_true (List.mem_cons.2 (.inl e.symm))).symm
    · rw [if_neg e]
      have : ¬ a = l[i] := fun q => e q.symm
      congr 1
      rw [Bool.eq_iff_iff]
      simp only [decide_eq_true_eq, List.mem_cons, this, false_or]
theorem in_f (k : Nat) (a : Int) (l : List Int) (hl : l.length ≤ 20) (hk : 20 < k) : polliwogref06_in.f k a l = some (decide (a ∈ l)) := by
  unfold polliwogref06_in.f
  have := in_l0 a l (by omega) l.length k 0 (by omega) (by omega)
  simpa using this
theorem hasSQ_f (k : Nat) (a : Int) (hk : 20 < k) : polliwogref06_HasSQ.f k a = some (sqB a) := by
  unfold polliwogref06_HasSQ.f
  rw [in_f k a _ (by decide) hk]
  simp [sqB]
theorem hasN_f (k : Nat) (a : Int) (hk : 20 < k) : polliwogref06_HasN.f k a = some (nB a) := by
  unfold polliwogref06_HasN.f
  rw [in_f k a _ (by decide) hk]
  simp [nB]
theorem most_f (k : Nat) (a : Int) (hk : 20 < k) : polliwogref06_Most.f k a = some (mostI a) := by
  unfold polliwogref06_Most.f mostI
  rw [in_f k a _ (by decide) hk, in_f k a _ (by decide) hk]
  simp only [Option.bind_some, List.mem_cons, List.not_mem_nil, or_false, decide_eq_true_eq]
  repeat' split
  all_goals rfl
def low24 (x : Int) : Bool := decide (0 ≤ x ∧ x < 16777216)
theorem refLow_f (x : Int) : polliwogref06_low.f x = some (low24 x) := by
  unfold polliwogref06_low.f low24
  by_cases h : 0 ≤ x <;> by_cases h2 : x < 16777216 <;> simp [h, h2]

section
variable (a0 a1 a2 a3 a4 : Int) (l5 : List Int) (a6 : Bool) (a7 : ByteArray)
def refB1 : Bool := (decide (0 < mostI a0) && decide (mostI a0 < (a7.size : Int))) || decide (128 < (l5.length : Int))
def refB2 : Bool := (decide (mostI a0 = 0) && !decide (a7.toList = [])) || !low24 a2 || !low24 a3 || !low24 a4 || decide (a1 < 0) || decide (255 < a1)
def refB3 : Bool := (!sqB a0 && !decide (a1 = 0)) || (!nB a0 && !decide (a2 = 0)) || (!decide (a0 = 3) && a6)
def refB4 : Bool := (!psB a0 && !decide (a3 = 0)) || (!mrB a0 && !decide (a4 = 0))
def refB5 : Bool := (decide (a0 = 11) && !decide ((l5.length : Int) % 2 = 0)) || (decide (a0 = 12) && !decide ((l5.length : Int) = 2)) || (!decide (a0 = 11) && !decide (a0 = 12) && decide (0 < (l5.length : Int)))
/-- 0, or the error's number. -/
def refI : Int := if a0 < 1 ∨ 15 < a0 then 10 else if refB1 a0 l5 a7 = true then 6 else if (refB2 a0 a1 a2 a3 a4 a7 || refB3 a0 a1 a2 a6 || refB4 a0 a3 a4 || refB5 a0 l5 || !l5.all low24) = true then 1 else 0
end
theorem bne_dec (x : Int) : (x != 0) = !decide (x = 0) := by rw [Bool.eq_iff_iff]; simp
theorem beq_dec (x : Int) : (x == 0) = decide (x = 0) := by rw [Bool.eq_iff_iff]; simp
theorem refLow_any (x : Int) (w : World) : Calls Tryd.prog 62 #[.int .i64 x] w fun e w' => e = .returned (.bool (low24 x)) ∧ ∃ n, w' = w.drewN n :=
  (polliwogref06_low.calls x _ w (refLow_f x)).mono fun _ _ ⟨he, hd⟩ => ⟨he, hd.out⟩
theorem sq_any (x : Int) (w : World) : Calls Tryd.prog 63 #[.int .i64 x] w fun e w' => e = .returned (.bool (sqB x)) ∧ Below w.heap.size w w' :=
  polliwogref06_HasSQ.calls 30 x _ w (hasSQ_f 30 x (by decide))
theorem n_any (x : Int) (w : World) : Calls Tryd.prog 64 #[.int .i64 x] w fun e w' => e = .returned (.bool (nB x)) ∧ Below w.heap.size w w' :=
  polliwogref06_HasN.calls 30 x _ w (hasN_f 30 x (by decide))
theorem most_any (x : Int) (w : World) : Calls Tryd.prog 61 #[.int .i64 x] w fun e w' => e = .returned (.int .i64 (mostI x)) ∧ Below w.heap.size w w' :=
  polliwogref06_Most.calls 30 x _ w (most_f 30 x (by decide))
theorem in_any (x a b : Int) (A : Option Addr) (c : Nat) (w : World) (hk : [a, b].length ≤ c) (hc : Kd.C (Kd.int .i64) w A [a, b].length [a, b]) : Calls Tryd.prog 65 #[.int .i64 x, .slice A [a, b].length c] w fun e w' => e = .returned (.bool (decide (x = a ∨ x = b))) ∧ ∃ n, w' = w.drewN n :=
  (polliwogref06_in.calls 30 x A c [a, b] _ w hc hk (by rw [in_f 30 x _ (by simp) (by decide)]; simp)).mono fun _ _ ⟨he, hd⟩ => ⟨he, hd.out⟩
theorem in2_any (x a b : Int) (A : Option Addr) (w : World) (hc : Kd.C (Kd.int .i64) w A 2 [a, b]) : Calls Tryd.prog 65 #[.int .i64 x, .slice A 2 2] w fun e w' => e = .returned (.bool (decide (x = a ∨ x = b))) ∧ ∃ n, w' = w.drewN n :=
  (polliwogref06_in.calls 30 x A 2 [a, b] _ w hc (by simp) (by rw [in_f 30 x _ (by simp) (by decide)]; simp)).mono fun _ _ ⟨he, hd⟩ => ⟨he, hd.out⟩
end Go.Proofs.YtjbnihaekgmhlaaDoor
namespace Go.Proofs.YtjbnihaekgmhlaaDoor
open Go.RowKit Pr Go.Proofs.YtjbnihaekgmhlaaDoorW.PrintWords
set_option linter.unusedVariables false
set_option linter.unusedSimpArgs false

theorem rst32 {P : Program} {ops : Array Oper} {Q : Exit → Act → World → Prop} {a : Act} {w : World} {l : List Oper} (RW : World → Prop) (s : Value)
    (h1 : wpList P ops (cutQ fun a' w' => RW w' ∧ ∃ u0 u1 u2 u3 u4 u5 u6 : Value, a' = ((((((((a.put (some 32) u0).put (some 33) u1).put (some 34) u2).put (some 35) u3).put (some 36) u4).put (some 37) u5).put (some 38) u6).put (some 39) s)) (l.take 8) a w) (h2 : ∀ (u0 u1 u2 u3 u4 u5 u6 : Value) (w' : World), RW w' → wpList P ops Q (l.drop 8) ((((((((a.put (some 32) u0).put (some 33) u1).put (some 34) u2).put (some 35) u3).put (some 36) u4).put (some 37) u5).put (some 38) u6).put (some 39) s) w') : wpList P ops Q l a w := by
  have := wpList_cut (Q := Q) (l.take 8) (l.drop 8) a w h1 (by
    rintro a' w' ⟨hw, u0, u1, u2, u3, u4, u5, u6, rfl⟩
    exact h2 u0 u1 u2 u3 u4 u5 u6 w' hw)
  rwa [List.take_append_drop] at this
theorem rst40 {P : Program} {ops : Array Oper} {Q : Exit → Act → World → Prop} {a : Act} {w : World} {l : List Oper} (RW : World → Prop) (s : Value)
    (h1 : wpList P ops (cutQ fun a' w' => RW w' ∧ ∃ u0 u1 u2 u3 u4 : Value, a' = ((((((a.put (some 40) u0).put (some 41) u1).put (some 42) u2).put (some 43) u3).put (some 44) u4).put (some 45) s)) (l.take 6) a w) (h2 : ∀ (u0 u1 u2 u3 u4 : Value) (w' : World), RW w' → wpList P ops Q (l.drop 6) ((((((a.put (some 40) u0).put (some 41) u1).put (some 42) u2).put (some 43) u3).put (some 44) u4).put (some 45) s) w') : wpList P ops Q l a w := by
  have := wpList_cut (Q := Q) (l.take 6) (l.drop 6) a w h1 (by
    rintro a' w' ⟨hw, u0, u1, u2, u3, u4, rfl⟩
    exact h2 u0 u1 u2 u3 u4 w' hw)
  rwa [List.take_append_drop] at this
theorem rst46 {P : Program} {ops : Array Oper} {Q : Exit → Act → World → Prop} {a : Act} {w : World} {l : List Oper} (RW : World → Prop) (s : Value)
    (h1 : wpList P ops (cutQ fun a' w' => RW w' ∧ ∃ u0 u1 u2 u3 u4 : Value, a' = ((((((a.put (some 46) u0).put (some 47) u1).put (some 48) u2).put (some 49) u3).put (some 50) u4).put (some 51) s)) (l.take 6) a w) (h2 : ∀ (u0 u1 u2 u3 u4 : Value) (w' : World), RW w' → wpList P ops Q (l.drop 6) ((((((a.put (some 46) u0).put (some 47) u1).put (some 48) u2).put (some 49) u3).put (some 50) u4).put (some 51) s) w') : wpList P ops Q l a w := by
  have := wpList_cut (Q := Q) (l.take 6) (l.drop 6) a w h1 (by
    rintro a' w' ⟨hw, u0, u1, u2, u3, u4, rfl⟩
    exact h2 u0 u1 u2 u3 u4 w' hw)
  rwa [List.take_append_drop] at this
theorem rst52 {P : Program} {ops : Array Oper} {Q : Exit → Act → World → Prop} {a : Act} {w : World} {l : List Oper} (RW : World → Prop) (s : Value)
    (h1 : wpList P ops (cutQ fun a' w' => RW w' ∧ ∃ u0 u1 u2 u3 u4 : Value, a' = ((((((a.put (some 52) u0).put (some 53) u1).put (some 54) u2).put (some 55) u3).put (some 56) u4).put (some 57) s)) (l.take 6) a w) (h2 : ∀ (u0 u1 u2 u3 u4 : Value) (w' : World), RW w' → wpList P ops Q (l.drop 6) ((((((a.put (some 52) u0).put (some 53) u1).put (some 54) u2).put (some 55) u3).put (some 56) u4).put (some 57) s) w') : wpList P ops Q l a w := by
  have := wpList_cut (Q := Q) (l.take 6) (l.drop 6) a w h1 (by
    rintro a' w' ⟨hw, u0, u1, u2, u3, u4, rfl⟩
    exact h2 u0 u1 u2 u3 u4 w' hw)
  rwa [List.take_append_drop] at this
theorem rst58 {P : Program} {ops : Array Oper} {Q : Exit → Act → World → Prop} {a : Act} {w : World} {l : List Oper} (RW : World → Prop) (s : Value)
    (h1 : wpList P ops (cutQ fun a' w' => RW w' ∧ ∃ u0 u1 u2 u3 : Value, a' = (((((a.put (some 58) u0).put (some 59) u1).put (some 60) u2).put (some 61) u3).put (some 62) s)) (l.take 5) a w) (h2 : ∀ (u0 u1 u2 u3 : Value) (w' : World), RW w' → wpList P ops Q (l.drop 5) (((((a.put (some 58) u0).put (some 59) u1).put (some 60) u2).put (some 61) u3).put (some 62) s) w') : wpList P ops Q l a w := by
  have := wpList_cut (Q := Q) (l.take 5) (l.drop 5) a w h1 (by
    rintro a' w' ⟨hw, u0, u1, u2, u3, rfl⟩
    exact h2 u0 u1 u2 u3 w' hw)
  rwa [List.take_append_drop] at this
theorem rst67 {P : Program} {ops : Array Oper} {Q : Exit → Act → World → Prop} {a : Act} {w : World} {l : List Oper} (RW : World → Prop) (s : Value)
    (h1 : wpList P ops (cutQ fun a' w' => RW w' ∧ ∃ u0 u1 u2 u3 u4 u5 u6 u7 u8 : Value, a' = ((((((((((a.put (some 67) u0).put (some 68) u1).put (some 69) u2).put (some 70) u3).put (some 71) u4).put (some 72) u5).put (some 73) u6).put (some 74) u7).put (some 75) u8).put (some 76) s)) (l.take 10) a w) (h2 : ∀ (u0 u1 u2 u3 u4 u5 u6 u7 u8 : Value) (w' : World), RW w' → wpList P ops Q (l.drop 10) ((((((((((a.put (some 67) u0).put (some 68) u1).put (some 69) u2).put (some 70) u3).put (some 71) u4).put (some 72) u5).put (some 73) u6).put (some 74) u7).put (some 75) u8).put (some 76) s) w') : wpList P ops Q l a w := by
  have := wpList_cut (Q := Q) (l.take 10) (l.drop 10) a w h1 (by
    rintro a' w' ⟨hw, u0, u1, u2, u3, u4, u5, u6, u7, u8, rfl⟩
    exact h2 u0 u1 u2 u3 u4 u5 u6 u7 u8 w' hw)
  rwa [List.take_append_drop] at this
theorem rst77 {P : Program} {ops : Array Oper} {Q : Exit → Act → World → Prop} {a : Act} {w : World} {l : List Oper} (RW : World → Prop) (s : Value)
    (h1 : wpList P ops (cutQ fun a' w' => RW w' ∧ ∃ u0 u1 u2 u3 u4 u5 u6 u7 u8 u9 : Value, a' = (((((((((((a.put (some 77) u0).put (some 78) u1).put (some 79) u2).put (some 80) u3).put (some 81) u4).put (some 82) u5).put (some 83) u6).put (some 84) u7).put (some 85) u8).put (some 86) u9).put (some 87) s)) (l.take 11) a w) (h2 : ∀ (u0 u1 u2 u3 u4 u5 u6 u7 u8 u9 : Value) (w' : World), RW w' → wpList P ops Q (l.drop 11) (((((((((((a.put (some 77) u0).put (some 78) u1).put (some 79) u2).put (some 80) u3).put (some 81) u4).put (some 82) u5).put (some 83) u6).put (some 84) u7).put (some 85) u8).put (some 86) u9).put (some 87) s) w') : wpList P ops Q l a w := by
  have := wpList_cut (Q := Q) (l.take 11) (l.drop 11) a w h1 (by
    rintro a' w' ⟨hw, u0, u1, u2, u3, u4, u5, u6, u7, u8, u9, rfl⟩
    exact h2 u0 u1 u2 u3 u4 u5 u6 u7 u8 u9 w' hw)
  rwa [List.take_append_drop] at this
theorem rst96 {P : Program} {ops : Array Oper} {Q : Exit → Act → World → Prop} {a : Act} {w : World} {l : List Oper} (RW : World → Prop) (s : Value)
    (h1 : wpList P ops (cutQ fun a' w' => RW w' ∧ ∃ u0 u1 u2 u3 u4 u5 u6 u7 u8 u9 : Value, a' = (((((((((((a.put (some 96) u0).put (some 97) u1).put (some 98) u2).put (some 99) u3).put (some 100) u4).put (some 101) u5).put (some 102) u6).put (some 103) u7).put (some 104) u8).put (some 105) u9).put (some 106) s)) (l.take 11) a w) (h2 : ∀ (u0 u1 u2 u3 u4 u5 u6 u7 u8 u9 : Value) (w' : World), RW w' → wpList P ops Q (l.drop 11) (((((((((((a.put (some 96) u0).put (some 97) u1).put (some 98) u2).put (some 99) u3).put (some 100) u4).put (some 101) u5).put (some 102) u6).put (some 103) u7).put (some 104) u8).put (some 105) u9).put (some 106) s) w') : wpList P ops Q l a w := by
  have := wpList_cut (Q := Q) (l.take 11) (l.drop 11) a w h1 (by
    rintro a' w' ⟨hw, u0, u1, u2, u3, u4, u5, u6, u7, u8, u9, rfl⟩
    exact h2 u0 u1 u2 u3 u4 u5 u6 u7 u8 u9 w' hw)
  rwa [List.take_append_drop] at this
theorem rst118 {P : Program} {ops : Array Oper} {Q : Exit → Act → World → Prop} {a : Act} {w : World} {l : List Oper} (RW : World → Prop) (s : Value)
    (h1 : wpList P ops (cutQ fun a' w' => RW w' ∧ ∃ u0 u1 u2 u3 u4 u5 u6 u7 u8 u9 : Value, a' = (((((((((((a.put (some 118) u0).put (some 119) u1).put (some 120) u2).put (some 121) u3).put (some 122) u4).put (some 123) u5).put (some 124) u6).put (some 125) u7).put (some 126) u8).put (some 127) u9).put (some 128) s)) (l.take 11) a w) (h2 : ∀ (u0 u1 u2 u3 u4 u5 u6 u7 u8 u9 : Value) (w' : World), RW w' → wpList P ops Q (l.drop 11) (((((((((((a.put (some 118) u0).put (some 119) u1).put (some 120) u2).put (some 121) u3).put (some 122) u4).put (some 123) u5).put (some 124) u6).put (some 125) u7).put (some 126) u8).put (some 127) u9).put (some 128) s) w') : wpList P ops Q l a w := by
  have := wpList_cut (Q := Q) (l.take 11) (l.drop 11) a w h1 (by
    rintro a' w' ⟨hw, u0, u1, u2, u3, u4, u5, u6, u7, u8, u9, rfl⟩
    exact h2 u0 u1 u2 u3 u4 u5 u6 u7 u8 u9 w' hw)
  rwa [List.take_append_drop] at this
theorem rst129 {P : Program} {ops : Array Oper} {Q : Exit → Act → World → Prop} {a : Act} {w : World} {l : List Oper} (RW : World → Prop) (s : Value)
    (h1 : wpList P ops (cutQ fun a' w' => RW w' ∧ ∃ u0 u1 u2 u3 u4 u5 u6 u7 u8 u9 : Value, a' = (((((((((((a.put (some 129) u0).put (some 130) u1).put (some 131) u2).put (some 132) u3).put (some 133) u4).put (some 134) u5).put (some 135) u6).put (some 136) u7).put (some 137) u8).put (some 138) u9).put (some 139) s)) (l.take 11) a w) (h2 : ∀ (u0 u1 u2 u3 u4 u5 u6 u7 u8 u9 : Value) (w' : World), RW w' → wpList P ops Q (l.drop 11) (((((((((((a.put (some 129) u0).put (some 130) u1).put (some 131) u2).put (some 132) u3).put (some 133) u4).put (some 134) u5).put (some 135) u6).put (some 136) u7).put (some 137) u8).put (some 138) u9).put (some 139) s) w') : wpList P ops Q l a w := by
  have := wpList_cut (Q := Q) (l.take 11) (l.drop 11) a w h1 (by
    rintro a' w' ⟨hw, u0, u1, u2, u3, u4, u5, u6, u7, u8, u9, rfl⟩
    exact h2 u0 u1 u2 u3 u4 u5 u6 u7 u8 u9 w' hw)
  rwa [List.take_append_drop] at this
set_option maxHeartbeats 16000000 in
set_option maxRecDepth 1000000 in
theorem refCheck_out (a0 a1 a2 a3 a4 : Int) (A5 : Option Addr) (c5 : Nat) (l5 : List Int) (a6 : Bool) (a7 : ByteArray) (w : World) (hk : a0 < 1 ∨ 15 < a0) :
    Calls Tryd.prog 37 #[.agg #[.int .i64 a0, .int .i64 a1, .int .i64 a2, .int .i64 a3, .int .i64 a4, .slice A5 l5.length c5, .bool a6, .string a7]] w fun e w' => e = .returned (.int .i64 (refI a0 a1 a2 a3 a4 l5 a6 a7)) ∧ Below w.heap.size w w' := by
  have hI : refI a0 a1 a2 a3 a4 l5 a6 a7 = 10 := by unfold refI; rw [if_pos hk]
  rw [hI]
  clear hI
  rcases hk with hk | hk
  all_goals
    go_enter Tryd.func37, Tryd.ntmps37
    go_wp2
    go_ret
    exact ⟨rfl, below_alloc (Below.refl _ _) _⟩
set_option maxHeartbeats 16000000 in
set_option maxRecDepth 1000000 in
theorem refCheck_b1 (a0 a1 a2 a3 a4 : Int) (A5 : Option Addr) (c5 : Nat) (l5 : List Int) (a6 : Bool) (a7 : ByteArray) (w : World) (hr : Kd.C (Kd.int .i64) w A5 l5.length l5) (hcap : l5.length ≤ c5) (hl : l5.length ≤ 1000) (hk : ¬ (a0 < 1 ∨ 15 < a0)) (hB1 : refB1 a0 l5 a7 = true) :
    Calls Tryd.prog 37 #[.agg #[.int .i64 a0, .int .i64 a1, .int .i64 a2, .int .i64 a3, .int .i64 a4, .slice A5 l5.length c5, .bool a6, .string a7]] w fun e w' => e = .returned (.int .i64 (refI a0 a1 a2 a3 a4 l5 a6 a7)) ∧ Below w.heap.size w w' := by
  have HR := Lib.hid hr
  have HCAP := Lib.hid hcap
  have HL := Lib.hid hl
  clear hr hcap hl
  obtain ⟨hk0, hk1⟩ : ¬ a0 < 1 ∧ ¬ 15 < a0 := by omega
  have hI : refI a0 a1 a2 a3 a4 l5 a6 a7 = if refB1 a0 l5 a7 = true then 6 else if (refB2 a0 a1 a2 a3 a4 a7 || refB3 a0 a1 a2 a6 || refB4 a0 a3 a4 || refB5 a0 l5 || !l5.all low24) = true then 1 else 0 := by unfold refI; rw [if_neg hk]
  have HI := Lib.hid hI
  clear hI hk
  go_enter Tryd.func37, Tryd.ntmps37
  go_wp2_with (first | ((with_reducible refine gate_dst (N := 1) rfl ?_); refine box_event ?hg (N := 1) ?hd (cs := #[.int .i64 a0, .int .i64 a1, .int .i64 a2, .int .i64 a3, .int .i64 a4, .slice A5 l5.length c5, .bool a6, .string a7]) (t := 36) ?hr ?_; (case hd => rfl); (case hg => rfl); (case hr => first | (go_simp; done) | (go_simp; rfl)); intro gp hg_ w1 hbox hb3; have cgp0 := (blk_cell hbox 0).trans rfl; have zgp0 := blk_frozen hbox 0; have cgp1 := (blk_cell hbox 1).trans rfl; have zgp1 := blk_frozen hbox 1; have cgp2 := (blk_cell hbox 2).trans rfl; have zgp2 := blk_frozen hbox 2; have cgp3 := (blk_cell hbox 3).trans rfl; have zgp3 := blk_frozen hbox 3; have cgp4 := (blk_cell hbox 4).trans rfl; have zgp4 := blk_frozen hbox 4; have cgp5 := (blk_cell hbox 5).trans rfl; have zgp5 := blk_frozen hbox 5; have cgp6 := (blk_cell hbox 6).trans rfl; have zgp6 := blk_frozen hbox 6; have cgp7 := (blk_cell hbox 7).trans rfl; have zgp7 := blk_frozen hbox 7; have HGgp := Lib.hid hg_; have HBgp := Lib.hid hb3; have HXgp := Lib.hid hbox; clear hg_ hb3 hbox))
  refine (most_any a0 _).mono ?_
  rintro e w2 ⟨rfl, b2⟩
  have HU := Lib.hid (blk_below HXgp.out b2)
  have HD := Lib.hid (below_step HBgp.out b2)
  clear b2 HGgp HXgp HBgp cgp0 zgp0 cgp1 zgp1 cgp2 zgp2 cgp3 zgp3 cgp4 zgp4 cgp5 zgp5 cgp6 zgp6 cgp7 zgp7 hk0 hk1
  obtain ⟨M, hM⟩ : ∃ M, mostI a0 = M := ⟨_, rfl⟩
  rw [hM]
  have HM := Lib.hid hM
  clear hM
  go_upto_region 4 with (fail)
  go_cut [31] (fun v31 wc => v31 = .bool (refB1 a0 l5 a7) ∧ w2 = wc)
  case first =>
    have q5 : w2.cell? ⟨gp, 5, none⟩ = some (.slice A5 l5.length c5) := (blk_cell HU.out 5).trans rfl
    have q7 : w2.cell? ⟨gp, 7, none⟩ = some (.string a7) := (blk_cell HU.out 7).trans rfl
    by_cases h1 : 0 < M
    · have h1' : decide (0 < M) = true := decide_eq_true h1
      by_cases h2 : M < (a7.size : Int)
      · have h2' : decide (M < (a7.size : Int)) = true := decide_eq_true h2
        clear h1 h2
        go_wp2
        go_meet
        exact ⟨by simp [refB1, HM.out, h1', h2'], rfl⟩
      · have h2' : decide (M < (a7.size : Int)) = false := decide_eq_false h2
        clear h1 h2
        go_wp2
        go_meet
        exact ⟨by simp [refB1, HM.out, h1', h2'], rfl⟩
    · have h1' : decide (0 < M) = false := decide_eq_false h1
      clear h1
      go_wp2
      go_meet
      exact ⟨by simp [refB1, HM.out, h1'], rfl⟩
  case rest =>
  obtain ⟨rfl, rfl⟩ := hcut
  rw [hB1]
  have HB1 := Lib.hid hB1
  clear hB1
  go_wp2
  go_ret
  exact ⟨by rw [HI.out, HB1.out]; rfl, HD.out⟩
set_option maxHeartbeats 16000000 in
set_option maxRecDepth 1000000 in
theorem refCheck_b2 (a0 a1 a2 a3 a4 : Int) (A5 : Option Addr) (c5 : Nat) (l5 : List Int) (a6 : Bool) (a7 : ByteArray) (w : World) (hr : Kd.C (Kd.int .i64) w A5 l5.length l5) (hcap : l5.length ≤ c5) (hl : l5.length ≤ 1000) (hk : ¬ (a0 < 1 ∨ 15 < a0)) (hB1 : refB1 a0 l5 a7 = false) (hB2 : refB2 a0 a1 a2 a3 a4 a7 = true) :
    Calls Tryd.prog 37 #[.agg #[.int .i64 a0, .int .i64 a1, .int .i64 a2, .int .i64 a3, .int .i64 a4, .slice A5 l5.length c5, .bool a6, .string a7]] w fun e w' => e = .returned (.int .i64 (refI a0 a1 a2 a3 a4 l5 a6 a7)) ∧ Below w.heap.size w w' := by
  have HR := Lib.hid hr
  have HCAP := Lib.hid hcap
  have HL := Lib.hid hl
  clear hr hcap hl
  obtain ⟨hk0, hk1⟩ : ¬ a0 < 1 ∧ ¬ 15 < a0 := by omega
  have hI : refI a0 a1 a2 a3 a4 l5 a6 a7 = if refB1 a0 l5 a7 = true then 6 else if (refB2 a0 a1 a2 a3 a4 a7 || refB3 a0 a1 a2 a6 || refB4 a0 a3 a4 || refB5 a0 l5 || !l5.all low24) = true then 1 else 0 := by unfold refI; rw [if_neg hk]
  have HI := Lib.hid hI
  clear hI hk
  go_enter Tryd.func37, Tryd.ntmps37
  go_wp2_with (first | ((with_reducible refine gate_dst (N := 1) rfl ?_); refine box_event ?hg (N := 1) ?hd (cs := #[.int .i64 a0, .int .i64 a1, .int .i64 a2, .int .i64 a3, .int .i64 a4, .slice A5 l5.length c5, .bool a6, .string a7]) (t := 36) ?hr ?_; (case hd => rfl); (case hg => rfl); (case hr => first | (go_simp; done) | (go_simp; rfl)); intro gp hg_ w1 hbox hb3; have cgp0 := (blk_cell hbox 0).trans rfl; have zgp0 := blk_frozen hbox 0; have cgp1 := (blk_cell hbox 1).trans rfl; have zgp1 := blk_frozen hbox 1; have cgp2 := (blk_cell hbox 2).trans rfl; have zgp2 := blk_frozen hbox 2; have cgp3 := (blk_cell hbox 3).trans rfl; have zgp3 := blk_frozen hbox 3; have cgp4 := (blk_cell hbox 4).trans rfl; have zgp4 := blk_frozen hbox 4; have cgp5 := (blk_cell hbox 5).trans rfl; have zgp5 := blk_frozen hbox 5; have cgp6 := (blk_cell hbox 6).trans rfl; have zgp6 := blk_frozen hbox 6; have cgp7 := (blk_cell hbox 7).trans rfl; have zgp7 := blk_frozen hbox 7; have HGgp := Lib.hid hg_; have HBgp := Lib.hid hb3; have HXgp := Lib.hid hbox; clear hg_ hb3 hbox))
  refine (most_any a0 _).mono ?_
  rintro e w2 ⟨rfl, b2⟩
  have HU := Lib.hid (blk_below HXgp.out b2)
  have HD := Lib.hid (below_step HBgp.out b2)
  clear b2 HGgp HXgp HBgp cgp0 zgp0 cgp1 zgp1 cgp2 zgp2 cgp3 zgp3 cgp4 zgp4 cgp5 zgp5 cgp6 zgp6 cgp7 zgp7 hk0 hk1
  obtain ⟨M, hM⟩ : ∃ M, mostI a0 = M := ⟨_, rfl⟩
  rw [hM]
  have HM := Lib.hid hM
  clear hM
  go_upto_region 4 with (fail)
  go_cut [31] (fun v31 wc => v31 = .bool (refB1 a0 l5 a7) ∧ w2 = wc)
  case first =>
    have q5 : w2.cell? ⟨gp, 5, none⟩ = some (.slice A5 l5.length c5) := (blk_cell HU.out 5).trans rfl
    have q7 : w2.cell? ⟨gp, 7, none⟩ = some (.string a7) := (blk_cell HU.out 7).trans rfl
    by_cases h1 : 0 < M
    · have h1' : decide (0 < M) = true := decide_eq_true h1
      by_cases h2 : M < (a7.size : Int)
      · have h2' : decide (M < (a7.size : Int)) = true := decide_eq_true h2
        clear h1 h2
        go_wp2
        go_meet
        exact ⟨by simp [refB1, HM.out, h1', h2'], rfl⟩
      · have h2' : decide (M < (a7.size : Int)) = false := decide_eq_false h2
        clear h1 h2
        go_wp2
        go_meet
        exact ⟨by simp [refB1, HM.out, h1', h2'], rfl⟩
    · have h1' : decide (0 < M) = false := decide_eq_false h1
      clear h1
      go_wp2
      go_meet
      exact ⟨by simp [refB1, HM.out, h1'], rfl⟩
  case rest =>
  obtain ⟨rfl, rfl⟩ := hcut
  rw [hB1] at HI ⊢
  have HB2 := Lib.hid hB2
  clear hB1 hB2
  go_upto_region 6 with (fail)
  go_cut [66] (fun v66 wc => v66 = .bool (refB2 a0 a1 a2 a3 a4 a7) ∧ ∃ q, w2.drewN q = wc)
  case first =>
    have q1 : w2.cell? ⟨gp, 1, none⟩ = some (.int .i64 a1) := (blk_cell HU.out 1).trans rfl
    have q2 : w2.cell? ⟨gp, 2, none⟩ = some (.int .i64 a2) := (blk_cell HU.out 2).trans rfl
    have q3 : w2.cell? ⟨gp, 3, none⟩ = some (.int .i64 a3) := (blk_cell HU.out 3).trans rfl
    have q4 : w2.cell? ⟨gp, 4, none⟩ = some (.int .i64 a4) := (blk_cell HU.out 4).trans rfl
    have q7 : w2.cell? ⟨gp, 7, none⟩ = some (.string a7) := (blk_cell HU.out 7).trans rfl
    refine wp_region_lit ?_
    obtain ⟨T1, hT1⟩ : ∃ b, (decide (M = 0) && !decide (a7.toList = [])) = b := ⟨_, rfl⟩
    have HT1 := Lib.hid hT1
    clear hT1
    refine rst32 (fun w' => ∃ q, w2.drewN q = w') (.bool T1) ?_ ?_
    · simp only [List.take_succ_cons, List.take_zero]
      by_cases hm : M = 0
      · have hm' : (M == 0) = true := by simpa using hm
        have hm2 : decide (M = 0) = true := decide_eq_true hm
        clear hm
        by_cases hd : a7.toList = []
        · have he : a7.toList.isEmpty = true := by rw [hd]; rfl
          have HD2 : Hid (decide (a7.toList = []) = true) := Lib.hid (decide_eq_true hd)
          clear hd
          go_wp2
          obtain rfl : T1 = false := by rw [← HT1.out]; simp [hm2, HD2.out]
          refine ⟨⟨0, rfl⟩, ?_⟩
          simp only [Act.put, List.setIfInBounds_toArray, List.set_cons_zero, List.set_cons_succ]
          exact ⟨_, _, _, _, _, _, _, rfl⟩
        · have he : a7.toList.isEmpty = false := by simpa using hd
          have HD2 : Hid (decide (a7.toList = []) = false) := Lib.hid (decide_eq_false hd)
          clear hd
          go_wp2
          obtain rfl : T1 = true := by rw [← HT1.out]; simp [hm2, HD2.out]
          refine ⟨⟨0, rfl⟩, ?_⟩
          simp only [Act.put, List.setIfInBounds_toArray, List.set_cons_zero, List.set_cons_succ]
          exact ⟨_, _, _, _, _, _, _, rfl⟩
      · have hm' : (M == 0) = false := by simpa using hm
        have hm2 : decide (M = 0) = false := decide_eq_false hm
        clear hm
        go_wp2
        obtain rfl : T1 = false := by rw [← HT1.out]; simp [hm2]
        refine ⟨⟨0, rfl⟩, ?_⟩
        simp only [Act.put, List.setIfInBounds_toArray, List.set_cons_zero, List.set_cons_succ]
        exact ⟨_, _, _, _, _, _, _, rfl⟩
    intro v32_0 v32_1 v32_2 v32_3 v32_4 v32_5 v32_6 w8 hw
    simp only [List.drop_succ_cons, List.drop_zero, Act.put, List.setIfInBounds_toArray, List.set_cons_zero, List.set_cons_succ]
    obtain ⟨q1, rfl⟩ := hw
    clear q7
    obtain ⟨T2, hT2⟩ : ∃ b, (T1 || !low24 a2) = b := ⟨_, rfl⟩
    have HT2 := Lib.hid hT2
    clear hT2
    refine rst40 (fun w' => ∃ q, w2.drewN q = w') (.bool T2) ?_ ?_
    · simp only [List.take_succ_cons, List.take_zero]
      cases T1 with
      | true =>
        go_wp2
        obtain rfl : T2 = true := by rw [← HT2.out]; simp []
        refine ⟨⟨_, rfl⟩, ?_⟩
        simp only [Act.put, List.setIfInBounds_toArray, List.set_cons_zero, List.set_cons_succ]
        exact ⟨_, _, _, _, _, rfl⟩
      | false =>
        cases hl : low24 a2 with
        | false =>
          have HL2 := Lib.hid hl
          go_wp2_with (first | (go_at_call 62; refine (refLow_any _ _).mono ?_; rintro e w' ⟨rfl, nq, rfl⟩))
          obtain rfl : T2 = true := by rw [← HT2.out]; simp [HL2.out]
          refine ⟨⟨_, rfl⟩, ?_⟩
          simp only [Act.put, List.setIfInBounds_toArray, List.set_cons_zero, List.set_cons_succ]
          exact ⟨_, _, _, _, _, rfl⟩
        | true =>
          have HL2 := Lib.hid hl
          go_wp2_with (first | (go_at_call 62; refine (refLow_any _ _).mono ?_; rintro e w' ⟨rfl, nq, rfl⟩))
          obtain rfl : T2 = false := by rw [← HT2.out]; simp [HL2.out]
          refine ⟨⟨_, rfl⟩, ?_⟩
          simp only [Act.put, List.setIfInBounds_toArray, List.set_cons_zero, List.set_cons_succ]
          exact ⟨_, _, _, _, _, rfl⟩
    intro v40_0 v40_1 v40_2 v40_3 v40_4 w8 hw
    simp only [List.drop_succ_cons, List.drop_zero, Act.put, List.setIfInBounds_toArray, List.set_cons_zero, List.set_cons_succ]
    obtain ⟨q12, rfl⟩ := hw
    obtain ⟨T3, hT3⟩ : ∃ b, (T2 || !low24 a3) = b := ⟨_, rfl⟩
    have HT3 := Lib.hid hT3
    clear hT3
    refine rst46 (fun w' => ∃ q, w2.drewN q = w') (.bool T3) ?_ ?_
    · simp only [List.take_succ_cons, List.take_zero]
      cases T2 with
      | true =>
        go_wp2
        obtain rfl : T3 = true := by rw [← HT3.out]; simp []
        refine ⟨⟨_, rfl⟩, ?_⟩
        simp only [Act.put, List.setIfInBounds_toArray, List.set_cons_zero, List.set_cons_succ]
        exact ⟨_, _, _, _, _, rfl⟩
      | false =>
        cases hl : low24 a3 with
        | false =>
          have HL2 := Lib.hid hl
          go_wp2_with (first | (go_at_call 62; refine (refLow_any _ _).mono ?_; rintro e w' ⟨rfl, nq, rfl⟩))
          obtain rfl : T3 = true := by rw [← HT3.out]; simp [HL2.out]
          refine ⟨⟨_, rfl⟩, ?_⟩
          simp only [Act.put, List.setIfInBounds_toArray, List.set_cons_zero, List.set_cons_succ]
          exact ⟨_, _, _, _, _, rfl⟩
        | true =>
          have HL2 := Lib.hid hl
          go_wp2_with (first | (go_at_call 62; refine (refLow_any _ _).mono ?_; rintro e w' ⟨rfl, nq, rfl⟩))
          obtain rfl : T3 = false := by rw [← HT3.out]; simp [HL2.out]
          refine ⟨⟨_, rfl⟩, ?_⟩
          simp only [Act.put, List.setIfInBounds_toArray, List.set_cons_zero, List.set_cons_succ]
          exact ⟨_, _, _, _, _, rfl⟩
    intro v46_0 v46_1 v46_2 v46_3 v46_4 w8 hw
    simp only [List.drop_succ_cons, List.drop_zero, Act.put, List.setIfInBounds_toArray, List.set_cons_zero, List.set_cons_succ]
    obtain ⟨q13, rfl⟩ := hw
    obtain ⟨T4, hT4⟩ : ∃ b, (T3 || !low24 a4) = b := ⟨_, rfl⟩
    have HT4 := Lib.hid hT4
    clear hT4
    refine rst52 (fun w' => ∃ q, w2.drewN q = w') (.bool T4) ?_ ?_
    · simp only [List.take_succ_cons, List.take_zero]
      cases T3 with
      | true =>
        go_wp2
        obtain rfl : T4 = true := by rw [← HT4.out]; simp []
        refine ⟨⟨_, rfl⟩, ?_⟩
        simp only [Act.put, List.setIfInBounds_toArray, List.set_cons_zero, List.set_cons_succ]
        exact ⟨_, _, _, _, _, rfl⟩
      | false =>
        cases hl : low24 a4 with
        | false =>
          have HL2 := Lib.hid hl
          go_wp2_with (first | (go_at_call 62; refine (refLow_any _ _).mono ?_; rintro e w' ⟨rfl, nq, rfl⟩))
          obtain rfl : T4 = true := by rw [← HT4.out]; simp [HL2.out]
          refine ⟨⟨_, rfl⟩, ?_⟩
          simp only [Act.put, List.setIfInBounds_toArray, List.set_cons_zero, List.set_cons_succ]
          exact ⟨_, _, _, _, _, rfl⟩
        | true =>
          have HL2 := Lib.hid hl
          go_wp2_with (first | (go_at_call 62; refine (refLow_any _ _).mono ?_; rintro e w' ⟨rfl, nq, rfl⟩))
          obtain rfl : T4 = false := by rw [← HT4.out]; simp [HL2.out]
          refine ⟨⟨_, rfl⟩, ?_⟩
          simp only [Act.put, List.setIfInBounds_toArray, List.set_cons_zero, List.set_cons_succ]
          exact ⟨_, _, _, _, _, rfl⟩
    intro v52_0 v52_1 v52_2 v52_3 v52_4 w8 hw
    simp only [List.drop_succ_cons, List.drop_zero, Act.put, List.setIfInBounds_toArray, List.set_cons_zero, List.set_cons_succ]
    obtain ⟨q14, rfl⟩ := hw
    obtain ⟨T5, hT5⟩ : ∃ b, (T4 || decide (a1 < 0)) = b := ⟨_, rfl⟩
    have HT5 := Lib.hid hT5
    clear hT5
    refine rst58 (fun w' => ∃ q, w2.drewN q = w') (.bool T5) ?_ ?_
    · simp only [List.take_succ_cons, List.take_zero]
      cases T4 with
      | true =>
        go_wp2
        obtain rfl : T5 = true := by rw [← HT5.out]; simp []
        refine ⟨⟨_, rfl⟩, ?_⟩
        simp only [Act.put, List.setIfInBounds_toArray, List.set_cons_zero, List.set_cons_succ]
        exact ⟨_, _, _, _, rfl⟩
      | false =>
        by_cases hs : a1 < 0
        · have hs' : decide (a1 < 0) = true := decide_eq_true hs
          clear hs
          go_wp2
          obtain rfl : T5 = true := by rw [← HT5.out]; simp [hs']
          refine ⟨⟨_, rfl⟩, ?_⟩
          simp only [Act.put, List.setIfInBounds_toArray, List.set_cons_zero, List.set_cons_succ]
          exact ⟨_, _, _, _, rfl⟩
        · have hs' : decide (a1 < 0) = false := decide_eq_false hs
          clear hs
          go_wp2
          obtain rfl : T5 = false := by rw [← HT5.out]; simp [hs']
          refine ⟨⟨_, rfl⟩, ?_⟩
          simp only [Act.put, List.setIfInBounds_toArray, List.set_cons_zero, List.set_cons_succ]
          exact ⟨_, _, _, _, rfl⟩
    intro v58_0 v58_1 v58_2 v58_3 w8 hw
    simp only [List.drop_succ_cons, List.drop_zero, Act.put, List.setIfInBounds_toArray, List.set_cons_zero, List.set_cons_succ]
    obtain ⟨q15, rfl⟩ := hw
    have hTT : refB2 a0 a1 a2 a3 a4 a7 = (T5 || decide (255 < a1)) := by unfold refB2; rw [← HT5.out, ← HT4.out, ← HT3.out, ← HT2.out, ← HT1.out, HM.out]
    have HTT := Lib.hid hTT
    clear hTT
    cases T5 with
    | true =>
      go_wp2
      go_meet
      exact ⟨by rw [HTT.out]; rfl, _, rfl⟩
    | false =>
      by_cases hs : 255 < a1
      · have hs' : decide (255 < a1) = true := decide_eq_true hs
        clear hs
        go_wp2
        go_meet
        exact ⟨by rw [HTT.out, hs']; rfl, _, rfl⟩
      · have hs' : decide (255 < a1) = false := decide_eq_false hs
        clear hs
        go_wp2
        go_meet
        exact ⟨by rw [HTT.out, hs']; rfl, _, rfl⟩
  case rest =>
  obtain ⟨rfl, q, rfl⟩ := hcut
  have HU5 : Hid ((w2.drewN q).heap[gp]? = some (.cells #[.int .i64 a0, .int .i64 a1, .int .i64 a2, .int .i64 a3, .int .i64 a4, .slice A5 l5.length c5, .bool a6, .string a7] 36 (0, 0))) := HU
  have HD5 : Hid (Below w.heap.size w (w2.drewN q)) := Lib.hid (pw_below_drewN HD.out q)
  generalize w2.drewN q = w3 at HU5 HD5 ⊢
  clear HU HD
  rw [HB2.out]
  go_wp2
  go_ret
  exact ⟨by rw [HI.out, HB2.out]; rfl, HD5.out⟩
set_option maxHeartbeats 16000000 in
set_option maxRecDepth 1000000 in
theorem refCheck_in (a0 a1 a2 a3 a4 : Int) (A5 : Option Addr) (c5 : Nat) (l5 : List Int) (a6 : Bool) (a7 : ByteArray) (w : World) (hr : Kd.C (Kd.int .i64) w A5 l5.length l5) (hcap : l5.length ≤ c5) (hl : l5.length ≤ 1000) (hk : ¬ (a0 < 1 ∨ 15 < a0)) (hB1 : refB1 a0 l5 a7 = false) (hB2 : refB2 a0 a1 a2 a3 a4 a7 = false) :
    Calls Tryd.prog 37 #[.agg #[.int .i64 a0, .int .i64 a1, .int .i64 a2, .int .i64 a3, .int .i64 a4, .slice A5 l5.length c5, .bool a6, .string a7]] w fun e w' => e = .returned (.int .i64 (refI a0 a1 a2 a3 a4 l5 a6 a7)) ∧ Below w.heap.size w w' := by
  have HR := Lib.hid hr
  have HCAP := Lib.hid hcap
  have HL := Lib.hid hl
  clear hr hcap hl
  obtain ⟨hk0, hk1⟩ : ¬ a0 < 1 ∧ ¬ 15 < a0 := by omega
  have hI : refI a0 a1 a2 a3 a4 l5 a6 a7 = if refB1 a0 l5 a7 = true then 6 else if (refB2 a0 a1 a2 a3 a4 a7 || refB3 a0 a1 a2 a6 || refB4 a0 a3 a4 || refB5 a0 l5 || !l5.all low24) = true then 1 else 0 := by unfold refI; rw [if_neg hk]
  have HI := Lib.hid hI
  clear hI hk
  go_enter Tryd.func37, Tryd.ntmps37
  go_wp2_with (first | ((with_reducible refine gate_dst (N := 1) rfl ?_); refine box_event ?hg (N := 1) ?hd (cs := #[.int .i64 a0, .int .i64 a1, .int .i64 a2, .int .i64 a3, .int .i64 a4, .slice A5 l5.length c5, .bool a6, .string a7]) (t := 36) ?hr ?_; (case hd => rfl); (case hg => rfl); (case hr => first | (go_simp; done) | (go_simp; rfl)); intro gp hg_ w1 hbox hb3; have cgp0 := (blk_cell hbox 0).trans rfl; have zgp0 := blk_frozen hbox 0; have cgp1 := (blk_cell hbox 1).trans rfl; have zgp1 := blk_frozen hbox 1; have cgp2 := (blk_cell hbox 2).trans rfl; have zgp2 := blk_frozen hbox 2; have cgp3 := (blk_cell hbox 3).trans rfl; have zgp3 := blk_frozen hbox 3; have cgp4 := (blk_cell hbox 4).trans rfl; have zgp4 := blk_frozen hbox 4; have cgp5 := (blk_cell hbox 5).trans rfl; have zgp5 := blk_frozen hbox 5; have cgp6 := (blk_cell hbox 6).trans rfl; have zgp6 := blk_frozen hbox 6; have cgp7 := (blk_cell hbox 7).trans rfl; have zgp7 := blk_frozen hbox 7; have HGgp := Lib.hid hg_; have HBgp := Lib.hid hb3; have HXgp := Lib.hid hbox; clear hg_ hb3 hbox))
  refine (most_any a0 _).mono ?_
  rintro e w2 ⟨rfl, b2⟩
  have HU := Lib.hid (blk_below HXgp.out b2)
  have HD := Lib.hid (below_step HBgp.out b2)
  clear b2 HGgp HXgp HBgp cgp0 zgp0 cgp1 zgp1 cgp2 zgp2 cgp3 zgp3 cgp4 zgp4 cgp5 zgp5 cgp6 zgp6 cgp7 zgp7 hk0 hk1
  obtain ⟨M, hM⟩ : ∃ M, mostI a0 = M := ⟨_, rfl⟩
  rw [hM]
  have HM := Lib.hid hM
  clear hM
  go_upto_region 4 with (fail)
  go_cut [31] (fun v31 wc => v31 = .bool (refB1 a0 l5 a7) ∧ w2 = wc)
  case first =>
    have q5 : w2.cell? ⟨gp, 5, none⟩ = some (.slice A5 l5.length c5) := (blk_cell HU.out 5).trans rfl
    have q7 : w2.cell? ⟨gp, 7, none⟩ = some (.string a7) := (blk_cell HU.out 7).trans rfl
    by_cases h1 : 0 < M
    · have h1' : decide (0 < M) = true := decide_eq_true h1
      by_cases h2 : M < (a7.size : Int)
      · have h2' : decide (M < (a7.size : Int)) = true := decide_eq_true h2
        clear h1 h2
        go_wp2
        go_meet
        exact ⟨by simp [refB1, HM.out, h1', h2'], rfl⟩
      · have h2' : decide (M < (a7.size : Int)) = false := decide_eq_false h2
        clear h1 h2
        go_wp2
        go_meet
        exact ⟨by simp [refB1, HM.out, h1', h2'], rfl⟩
    · have h1' : decide (0 < M) = false := decide_eq_false h1
      clear h1
      go_wp2
      go_meet
      exact ⟨by simp [refB1, HM.out, h1'], rfl⟩
  case rest =>
  obtain ⟨rfl, rfl⟩ := hcut
  rw [hB1] at HI ⊢
  have HB2 := Lib.hid hB2
  clear hB1 hB2
  go_upto_region 6 with (fail)
  go_cut [66] (fun v66 wc => v66 = .bool (refB2 a0 a1 a2 a3 a4 a7) ∧ ∃ q, w2.drewN q = wc)
  case first =>
    have q1 : w2.cell? ⟨gp, 1, none⟩ = some (.int .i64 a1) := (blk_cell HU.out 1).trans rfl
    have q2 : w2.cell? ⟨gp, 2, none⟩ = some (.int .i64 a2) := (blk_cell HU.out 2).trans rfl
    have q3 : w2.cell? ⟨gp, 3, none⟩ = some (.int .i64 a3) := (blk_cell HU.out 3).trans rfl
    have q4 : w2.cell? ⟨gp, 4, none⟩ = some (.int .i64 a4) := (blk_cell HU.out 4).trans rfl
    have q7 : w2.cell? ⟨gp, 7, none⟩ = some (.string a7) := (blk_cell HU.out 7).trans rfl
    have h2 := HB2.out
    unfold refB2 at h2
    rw [HM.out] at h2
    simp only [Bool.or_eq_false_iff, Bool.not_eq_eq_eq_not, Bool.not_false, decide_eq_false_iff_not, Bool.and_eq_false_imp, decide_eq_true_eq, Bool.not_eq_true'] at h2
    obtain ⟨⟨⟨⟨⟨g1, g2⟩, g3⟩, g4⟩, g5⟩, g6⟩ := h2
    have G1 := Lib.hid g1
    have G2 := Lib.hid g2
    have G3 := Lib.hid g3
    have G4 := Lib.hid g4
    clear g1 g2 g3 g4
    have hs' : decide (a1 < 0) = false := decide_eq_false g5
    have hs2' : decide (255 < a1) = false := decide_eq_false g6
    clear g5 g6
    refine wp_region_lit ?_
    refine rst32 (fun w' => ∃ q, w2.drewN q = w') (.bool false) ?_ ?_
    · simp only [List.take_succ_cons, List.take_zero]
      by_cases hm : M = 0
      · have hm' : (M == 0) = true := by simpa using hm
        have he : a7.toList.isEmpty = true := by have := G1.out hm; simpa using this
        clear hm
        go_wp2
        refine ⟨⟨0, rfl⟩, ?_⟩
        simp only [Act.put, List.setIfInBounds_toArray, List.set_cons_zero, List.set_cons_succ]
        exact ⟨_, _, _, _, _, _, _, rfl⟩
      · have hm' : (M == 0) = false := by simpa using hm
        clear hm
        go_wp2
        refine ⟨⟨0, rfl⟩, ?_⟩
        simp only [Act.put, List.setIfInBounds_toArray, List.set_cons_zero, List.set_cons_succ]
        exact ⟨_, _, _, _, _, _, _, rfl⟩
    intro v32_0 v32_1 v32_2 v32_3 v32_4 v32_5 v32_6 w8 hw
    simp only [List.drop_succ_cons, List.drop_zero, Act.put, List.setIfInBounds_toArray, List.set_cons_zero, List.set_cons_succ]
    obtain ⟨q32, rfl⟩ := hw
    clear q7
    refine rst40 (fun w' => ∃ q, w2.drewN q = w') (.bool false) ?_ ?_
    · simp only [List.take_succ_cons, List.take_zero]
      have hl := G2.out
      go_wp2_with (first | (go_at_call 62; refine (refLow_any _ _).mono ?_; rintro e w' ⟨rfl, nq, rfl⟩))
      refine ⟨⟨_, rfl⟩, ?_⟩
      simp only [Act.put, List.setIfInBounds_toArray, List.set_cons_zero, List.set_cons_succ]
      exact ⟨_, _, _, _, _, rfl⟩
    intro v40_0 v40_1 v40_2 v40_3 v40_4 w8 hw
    simp only [List.drop_succ_cons, List.drop_zero, Act.put, List.setIfInBounds_toArray, List.set_cons_zero, List.set_cons_succ]
    obtain ⟨q40, rfl⟩ := hw
    refine rst46 (fun w' => ∃ q, w2.drewN q = w') (.bool false) ?_ ?_
    · simp only [List.take_succ_cons, List.take_zero]
      have hl := G3.out
      go_wp2_with (first | (go_at_call 62; refine (refLow_any _ _).mono ?_; rintro e w' ⟨rfl, nq, rfl⟩))
      refine ⟨⟨_, rfl⟩, ?_⟩
      simp only [Act.put, List.setIfInBounds_toArray, List.set_cons_zero, List.set_cons_succ]
      exact ⟨_, _, _, _, _, rfl⟩
    intro v46_0 v46_1 v46_2 v46_3 v46_4 w8 hw
    simp only [List.drop_succ_cons, List.drop_zero, Act.put, List.setIfInBounds_toArray, List.set_cons_zero, List.set_cons_succ]
    obtain ⟨q46, rfl⟩ := hw
    refine rst52 (fun w' => ∃ q, w2.drewN q = w') (.bool false) ?_ ?_
    · simp only [List.take_succ_cons, List.take_zero]
      have hl := G4.out
      go_wp2_with (first | (go_at_call 62; refine (refLow_any _ _).mono ?_; rintro e w' ⟨rfl, nq, rfl⟩))
      refine ⟨⟨_, rfl⟩, ?_⟩
      simp only [Act.put, List.setIfInBounds_toArray, List.set_cons_zero, List.set_cons_succ]
      exact ⟨_, _, _, _, _, rfl⟩
    intro v52_0 v52_1 v52_2 v52_3 v52_4 w8 hw
    simp only [List.drop_succ_cons, List.drop_zero, Act.put, List.setIfInBounds_toArray, List.set_cons_zero, List.set_cons_succ]
    obtain ⟨q52, rfl⟩ := hw
    refine rst58 (fun w' => ∃ q, w2.drewN q = w') (.bool false) ?_ ?_
    · simp only [List.take_succ_cons, List.take_zero]
      go_wp2
      refine ⟨⟨_, rfl⟩, ?_⟩
      simp only [Act.put, List.setIfInBounds_toArray, List.set_cons_zero, List.set_cons_succ]
      exact ⟨_, _, _, _, rfl⟩
    intro v58_0 v58_1 v58_2 v58_3 w8 hw
    simp only [List.drop_succ_cons, List.drop_zero, Act.put, List.setIfInBounds_toArray, List.set_cons_zero, List.set_cons_succ]
    obtain ⟨q58, rfl⟩ := hw
    go_wp2
    go_meet
    exact ⟨by rw [HB2.out], _, rfl⟩
  case rest =>
  obtain ⟨rfl, q, rfl⟩ := hcut
  have HU5 : Hid ((w2.drewN q).heap[gp]? = some (.cells #[.int .i64 a0, .int .i64 a1, .int .i64 a2, .int .i64 a3, .int .i64 a4, .slice A5 l5.length c5, .bool a6, .string a7] 36 (0, 0))) := HU
  have HD5 : Hid (Below w.heap.size w (w2.drewN q)) := Lib.hid (pw_below_drewN HD.out q)
  generalize w2.drewN q = w3 at HU5 HD5 ⊢
  clear HU HD
  rw [HB2.out]
  rw [HB2.out] at HI
  go_upto_region 8 with (fail)
  go_cut [95] (fun v95 wc => v95 = .bool (refB3 a0 a1 a2 a6) ∧ Hid (wc.heap[gp]? = some (.cells #[.int .i64 a0, .int .i64 a1, .int .i64 a2, .int .i64 a3, .int .i64 a4, .slice A5 l5.length c5, .bool a6, .string a7] 36 (0, 0))) ∧ Hid (Below w.heap.size w wc))
  case first =>
    refine wp_region_lit ?_
    obtain ⟨T1, hT1⟩ : ∃ b, (!sqB a0 && !decide (a1 = 0)) = b := ⟨_, rfl⟩
    have HT1 := Lib.hid hT1
    clear hT1
    refine rst67 (fun w' => Hid (w'.heap[gp]? = some (.cells #[.int .i64 a0, .int .i64 a1, .int .i64 a2, .int .i64 a3, .int .i64 a4, .slice A5 l5.length c5, .bool a6, .string a7] 36 (0, 0))) ∧ Hid (Below w.heap.size w w')) (.bool T1) ?_ ?_
    · simp only [List.take_succ_cons, List.take_zero]
      have q0 : w3.cell? ⟨gp, 0, none⟩ = some (.int .i64 a0) := (blk_cell HU5.out 0).trans rfl
      go_wp2_with fail
      refine (sq_any a0 _).mono ?_
      rintro e wa ⟨rfl, ba⟩
      have Ua := Lib.hid (blk_below HU5.out ba)
      have Da := Lib.hid (below_step HD5.out ba)
      clear ba
      clear q0
      have q1 : wa.cell? ⟨gp, 1, none⟩ = some (.int .i64 a1) := (blk_cell Ua.out 1).trans rfl
      cases hs : sqB a0 with
      | true =>
        go_wp2
        obtain rfl : T1 = false := by rw [← HT1.out]; simp [hs]
        refine ⟨⟨Ua, Da⟩, ?_⟩
        simp only [Act.put, List.setIfInBounds_toArray, List.set_cons_zero, List.set_cons_succ]
        exact ⟨_, _, _, _, _, _, _, _, _, rfl⟩
      | false =>
        by_cases h1 : a1 = 0
        · have h1' : (a1 != 0) = false := by simp [h1]
          have h1d : decide (a1 = 0) = true := decide_eq_true h1
          clear h1
          go_wp2
          obtain rfl : T1 = false := by rw [← HT1.out]; simp [hs, h1d]
          refine ⟨⟨Ua, Da⟩, ?_⟩
          simp only [Act.put, List.setIfInBounds_toArray, List.set_cons_zero, List.set_cons_succ]
          exact ⟨_, _, _, _, _, _, _, _, _, rfl⟩
        · have h1' : (a1 != 0) = true := by simpa using h1
          have h1d : decide (a1 = 0) = false := decide_eq_false h1
          clear h1
          go_wp2
          obtain rfl : T1 = true := by rw [← HT1.out]; simp [hs, h1d]
          refine ⟨⟨Ua, Da⟩, ?_⟩
          simp only [Act.put, List.setIfInBounds_toArray, List.set_cons_zero, List.set_cons_succ]
          exact ⟨_, _, _, _, _, _, _, _, _, rfl⟩
    intro v67_0 v67_1 v67_2 v67_3 v67_4 v67_5 v67_6 v67_7 v67_8 w4 hw
    simp only [List.drop_succ_cons, List.drop_zero, Act.put, List.setIfInBounds_toArray, List.set_cons_zero, List.set_cons_succ]
    obtain ⟨U4, D4⟩ := hw
    obtain ⟨T2, hT2⟩ : ∃ b, (T1 || (!nB a0 && !decide (a2 = 0))) = b := ⟨_, rfl⟩
    have HT2 := Lib.hid hT2
    clear hT2
    refine rst77 (fun w' => Hid (w'.heap[gp]? = some (.cells #[.int .i64 a0, .int .i64 a1, .int .i64 a2, .int .i64 a3, .int .i64 a4, .slice A5 l5.length c5, .bool a6, .string a7] 36 (0, 0))) ∧ Hid (Below w.heap.size w w')) (.bool T2) ?_ ?_
    · simp only [List.take_succ_cons, List.take_zero]
      cases T1 with
      | true =>
        go_wp2
        obtain rfl : T2 = true := by rw [← HT2.out]; simp []
        refine ⟨⟨U4, D4⟩, ?_⟩
        simp only [Act.put, List.setIfInBounds_toArray, List.set_cons_zero, List.set_cons_succ]
        exact ⟨_, _, _, _, _, _, _, _, _, _, rfl⟩
      | false =>
        have q0 : w4.cell? ⟨gp, 0, none⟩ = some (.int .i64 a0) := (blk_cell U4.out 0).trans rfl
        go_wp2_with fail
        refine (n_any a0 _).mono ?_
        rintro e wb ⟨rfl, bb⟩
        have Ub := Lib.hid (blk_below U4.out bb)
        have Db := Lib.hid (below_step D4.out bb)
        clear bb
        clear q0
        have q2 : wb.cell? ⟨gp, 2, none⟩ = some (.int .i64 a2) := (blk_cell Ub.out 2).trans rfl
        cases hs : nB a0 with
        | true =>
          go_wp2
          obtain rfl : T2 = false := by rw [← HT2.out]; simp [hs]
          refine ⟨⟨Ub, Db⟩, ?_⟩
          simp only [Act.put, List.setIfInBounds_toArray, List.set_cons_zero, List.set_cons_succ]
          exact ⟨_, _, _, _, _, _, _, _, _, _, rfl⟩
        | false =>
          by_cases h1 : a2 = 0
          · have h1' : (a2 != 0) = false := by simp [h1]
            have h1d : decide (a2 = 0) = true := decide_eq_true h1
            clear h1
            go_wp2
            obtain rfl : T2 = false := by rw [← HT2.out]; simp [hs, h1d]
            refine ⟨⟨Ub, Db⟩, ?_⟩
            simp only [Act.put, List.setIfInBounds_toArray, List.set_cons_zero, List.set_cons_succ]
            exact ⟨_, _, _, _, _, _, _, _, _, _, rfl⟩
          · have h1' : (a2 != 0) = true := by simpa using h1
            have h1d : decide (a2 = 0) = false := decide_eq_false h1
            clear h1
            go_wp2
            obtain rfl : T2 = true := by rw [← HT2.out]; simp [hs, h1d]
            refine ⟨⟨Ub, Db⟩, ?_⟩
            simp only [Act.put, List.setIfInBounds_toArray, List.set_cons_zero, List.set_cons_succ]
            exact ⟨_, _, _, _, _, _, _, _, _, _, rfl⟩
    intro v77_0 v77_1 v77_2 v77_3 v77_4 v77_5 v77_6 v77_7 v77_8 v77_9 w5 hw
    simp only [List.drop_succ_cons, List.drop_zero, Act.put, List.setIfInBounds_toArray, List.set_cons_zero, List.set_cons_succ]
    obtain ⟨U5, D5⟩ := hw
    have hTT : refB3 a0 a1 a2 a6 = (T2 || (!decide (a0 = 3) && a6)) := by unfold refB3; rw [← HT2.out, ← HT1.out]
    have HTT := Lib.hid hTT
    clear hTT
    have q0 : w5.cell? ⟨gp, 0, none⟩ = some (.int .i64 a0) := (blk_cell U5.out 0).trans rfl
    have q6 : w5.cell? ⟨gp, 6, none⟩ = some (.bool a6) := (blk_cell U5.out 6).trans rfl
    cases T2 with
    | true =>
      go_wp2
      go_meet
      exact ⟨by rw [HTT.out]; rfl, U5, D5⟩
    | false =>
      by_cases h3 : a0 = 3
      · have h3' : (a0 != 3) = false := by simp [h3]
        have h3d : decide (a0 = 3) = true := decide_eq_true h3
        clear h3
        go_wp2
        go_meet
        exact ⟨by rw [HTT.out, h3d]; rfl, U5, D5⟩
      · have h3' : (a0 != 3) = true := by simpa using h3
        have h3d : decide (a0 = 3) = false := decide_eq_false h3
        clear h3
        go_wp2
        go_meet
        exact ⟨by rw [HTT.out, h3d]; simp, U5, D5⟩
  case rest =>
  obtain ⟨rfl, HU6, HD6⟩ := hcut
  clear HU5 HD5
  generalize hB3 : refB3 a0 a1 a2 a6 = B3 at HI ⊢
  cases B3
  rotate_left
  · go_wp2
    go_ret
    exact ⟨by rw [HI.out]; rfl, HD6.out⟩
  clear hB3
  go_upto_region 10 with (fail)
  go_cut [117] (fun v117 wc => v117 = .bool (refB4 a0 a3 a4) ∧ Hid (wc.heap[gp]? = some (.cells #[.int .i64 a0, .int .i64 a1, .int .i64 a2, .int .i64 a3, .int .i64 a4, .slice A5 l5.length c5, .bool a6, .string a7] 36 (0, 0))) ∧ Hid (Below w.heap.size w wc))
  case first =>
    refine wp_region_lit ?_
    obtain ⟨T1, hT1⟩ : ∃ b, (!psB a0 && !decide (a3 = 0)) = b := ⟨_, rfl⟩
    have HT1 := Lib.hid hT1
    clear hT1
    refine rst96 (fun w' => Hid (w'.heap[gp]? = some (.cells #[.int .i64 a0, .int .i64 a1, .int .i64 a2, .int .i64 a3, .int .i64 a4, .slice A5 l5.length c5, .bool a6, .string a7] 36 (0, 0))) ∧ Hid (Below w.heap.size w w')) (.bool T1) ?_ ?_
    · simp only [List.take_succ_cons, List.take_zero]
      have q0 : wc.cell? ⟨gp, 0, none⟩ = some (.int .i64 a0) := (blk_cell HU6.out 0).trans rfl
      go_wp2_with (first | ((with_reducible refine gate_dst (N := 98) rfl ?_); (try (refine gate_guard (by rfl) ?_; dsimp only)); refine Kd.R_lit (Kd.int .i64) _ 3 ?hg (N := 98) ?hd (xs := ([10, 11] : List Int)) (inner := [.int .i64 10, .int .i64 11]) (ok := fun _ => True) (okp := fun _ => True) ?hr ?hp (fun _ hk => hk) trivial (Below.refl _ _) (Nat.le_refl _) (by simp) ?_; (case hd => rfl); (case hg => rfl); (case hr => first | (go_simp; done) | (go_simp; rfl)); (case hp => exact (Reps.one (show Kd.M (Kd.int .i64) _ _ _ 10 [.int .i64 10] from rfl) (Reps.one (show Kd.M (Kd.int .i64) _ _ _ 11 [.int .i64 11] from rfl) (Reps.none _ _)))); intro va wa hoa hba hg_ hnew_; clear hg_ hnew_))
      obtain ⟨Aa, ka, ea, hka, hCa⟩ := Kd.R_reads hoa
      subst ea
      have Ua := Lib.hid (blk_below HU6.out hba)
      have Da := Lib.hid (below_step HD6.out hba)
      clear hba
      refine (in_any a0 10 11 Aa ka _ hka hCa).mono ?_
      rintro e wa2 ⟨rfl, qa, rfl⟩
      clear hoa hka hCa
      have Ua2 : Hid ((wa.drewN qa).heap[gp]? = some (.cells #[.int .i64 a0, .int .i64 a1, .int .i64 a2, .int .i64 a3, .int .i64 a4, .slice A5 l5.length c5, .bool a6, .string a7] 36 (0, 0))) := Ua
      have Da2 := Lib.hid (pw_below_drewN Da.out qa)
      generalize wa.drewN qa = wa3 at Ua2 Da2 ⊢
      clear Ua Da
      clear q0
      have q3 : wa3.cell? ⟨gp, 3, none⟩ = some (.int .i64 a3) := (blk_cell Ua2.out 3).trans rfl
      rw [show decide (a0 = 10 ∨ a0 = 11) = psB a0 from rfl]
      cases hs : psB a0 with
      | true =>
        go_wp2
        obtain rfl : T1 = false := by rw [← HT1.out]; simp [hs]
        refine ⟨⟨Ua2, Da2⟩, ?_⟩
        simp only [Act.put, List.setIfInBounds_toArray, List.set_cons_zero, List.set_cons_succ]
        exact ⟨_, _, _, _, _, _, _, _, _, _, rfl⟩
      | false =>
        by_cases h1 : a3 = 0
        · have h1' : (a3 != 0) = false := by simp [h1]
          have h1d : decide (a3 = 0) = true := decide_eq_true h1
          clear h1
          go_wp2
          obtain rfl : T1 = false := by rw [← HT1.out]; simp [hs, h1d]
          refine ⟨⟨Ua2, Da2⟩, ?_⟩
          simp only [Act.put, List.setIfInBounds_toArray, List.set_cons_zero, List.set_cons_succ]
          exact ⟨_, _, _, _, _, _, _, _, _, _, rfl⟩
        · have h1' : (a3 != 0) = true := by simpa using h1
          have h1d : decide (a3 = 0) = false := decide_eq_false h1
          clear h1
          go_wp2
          obtain rfl : T1 = true := by rw [← HT1.out]; simp [hs, h1d]
          refine ⟨⟨Ua2, Da2⟩, ?_⟩
          simp only [Act.put, List.setIfInBounds_toArray, List.set_cons_zero, List.set_cons_succ]
          exact ⟨_, _, _, _, _, _, _, _, _, _, rfl⟩
    intro v96_0 v96_1 v96_2 v96_3 v96_4 v96_5 v96_6 v96_7 v96_8 v96_9 w4 hw
    simp only [List.drop_succ_cons, List.drop_zero, Act.put, List.setIfInBounds_toArray, List.set_cons_zero, List.set_cons_succ]
    obtain ⟨U4, D4⟩ := hw
    have hTT : refB4 a0 a3 a4 = (T1 || (!mrB a0 && !decide (a4 = 0))) := by unfold refB4; rw [← HT1.out]
    have HTT := Lib.hid hTT
    clear hTT
    cases T1 with
    | true =>
      go_wp2
      go_meet
      exact ⟨by rw [HTT.out]; rfl, U4, D4⟩
    | false =>
      have q0 : w4.cell? ⟨gp, 0, none⟩ = some (.int .i64 a0) := (blk_cell U4.out 0).trans rfl
      go_wp2_with (first | ((with_reducible refine gate_dst (N := 109) rfl ?_); (try (refine gate_guard (by rfl) ?_; dsimp only)); refine Kd.R_lit (Kd.int .i64) _ 3 ?hg (N := 109) ?hd (xs := ([11, 12] : List Int)) (inner := [.int .i64 11, .int .i64 12]) (ok := fun _ => True) (okp := fun _ => True) ?hr ?hp (fun _ hk => hk) trivial (Below.refl _ _) (Nat.le_refl _) (by simp) ?_; (case hd => rfl); (case hg => rfl); (case hr => first | (go_simp; done) | (go_simp; rfl)); (case hp => exact (Reps.one (show Kd.M (Kd.int .i64) _ _ _ 11 [.int .i64 11] from rfl) (Reps.one (show Kd.M (Kd.int .i64) _ _ _ 12 [.int .i64 12] from rfl) (Reps.none _ _)))); intro vb wb hob hbb hg_ hnew_; clear hg_ hnew_))
      obtain ⟨Ab, kb, eb, hkb, hCb⟩ := Kd.R_reads hob
      subst eb
      have Ub := Lib.hid (blk_below U4.out hbb)
      have Db := Lib.hid (below_step D4.out hbb)
      clear hbb
      refine (in_any a0 11 12 Ab kb _ hkb hCb).mono ?_
      rintro e wb2 ⟨rfl, qb, rfl⟩
      clear hob hkb hCb
      have Ub2 : Hid ((wb.drewN qb).heap[gp]? = some (.cells #[.int .i64 a0, .int .i64 a1, .int .i64 a2, .int .i64 a3, .int .i64 a4, .slice A5 l5.length c5, .bool a6, .string a7] 36 (0, 0))) := Ub
      have Db2 := Lib.hid (pw_below_drewN Db.out qb)
      generalize wb.drewN qb = wb3 at Ub2 Db2 ⊢
      clear Ub Db
      clear q0
      have q4 : wb3.cell? ⟨gp, 4, none⟩ = some (.int .i64 a4) := (blk_cell Ub2.out 4).trans rfl
      rw [show decide (a0 = 11 ∨ a0 = 12) = mrB a0 from rfl]
      cases hs : mrB a0 with
      | true =>
        go_wp2
        go_meet
        exact ⟨by rw [HTT.out, hs]; rfl, Ub2, Db2⟩
      | false =>
        by_cases h1 : a4 = 0
        · have h1' : (a4 != 0) = false := by simp [h1]
          have h1d : decide (a4 = 0) = true := decide_eq_true h1
          clear h1
          go_wp2
          go_meet
          exact ⟨by rw [HTT.out, hs, h1d]; rfl, Ub2, Db2⟩
        · have h1' : (a4 != 0) = true := by simpa using h1
          have h1d : decide (a4 = 0) = false := decide_eq_false h1
          clear h1
          go_wp2
          go_meet
          exact ⟨by rw [HTT.out, hs, h1d]; rfl, Ub2, Db2⟩
  case rest =>
  obtain ⟨rfl, HU7, HD7⟩ := hcut
  clear HU6 HD6
  generalize hB4 : refB4 a0 a3 a4 = B4 at HI ⊢
  cases B4
  rotate_left
  · go_wp2
    go_ret
    exact ⟨by rw [HI.out]; rfl, HD7.out⟩
  clear hB4
  go_upto_region 12 with (fail)
  go_cut [154] (fun v154 wd => v154 = .bool (refB5 a0 l5) ∧ wc = wd)
  case first =>
    refine wp_region_lit ?_
    have q0 : wc.cell? ⟨gp, 0, none⟩ = some (.int .i64 a0) := (blk_cell HU7.out 0).trans rfl
    have q5 : wc.cell? ⟨gp, 5, none⟩ = some (.slice A5 l5.length c5) := (blk_cell HU7.out 5).trans rfl
    have hlb : l5.length ≤ 1000 := HL.out
    obtain ⟨T1, hT1⟩ : ∃ b, (decide (a0 = 11) && !decide ((l5.length : Int) % 2 = 0)) = b := ⟨_, rfl⟩
    have HT1 := Lib.hid hT1
    clear hT1
    refine rst118 (fun w' => wc = w') (.bool T1) ?_ ?_
    · simp only [List.take_succ_cons, List.take_zero]
      by_cases hk : a0 = 11
      · have hk' : (a0 == 11) = true := by simpa using hk
        have hkd : decide (a0 = 11) = true := decide_eq_true hk
        clear hk
        by_cases hm : (l5.length : Int) % 2 = 0
        · have hm' : ((l5.length : Int) % 2 != 0) = false := by simpa using hm
          have hmd : decide ((l5.length : Int) % 2 = 0) = true := decide_eq_true hm
          clear hm
          go_wp2
          obtain rfl : T1 = false := by rw [← HT1.out]; simp [hkd, hmd]
          refine ⟨rfl, ?_⟩
          simp only [Act.put, List.setIfInBounds_toArray, List.set_cons_zero, List.set_cons_succ]
          exact ⟨_, _, _, _, _, _, _, _, _, _, rfl⟩
        · have hm' : ((l5.length : Int) % 2 != 0) = true := by simpa using hm
          have hmd : decide ((l5.length : Int) % 2 = 0) = false := decide_eq_false hm
          clear hm
          go_wp2
          obtain rfl : T1 = true := by rw [← HT1.out]; simp [hkd, hmd]
          refine ⟨rfl, ?_⟩
          simp only [Act.put, List.setIfInBounds_toArray, List.set_cons_zero, List.set_cons_succ]
          exact ⟨_, _, _, _, _, _, _, _, _, _, rfl⟩
      · have hk' : (a0 == 11) = false := by simpa using hk
        have hkd : decide (a0 = 11) = false := decide_eq_false hk
        clear hk
        go_wp2
        obtain rfl : T1 = false := by rw [← HT1.out]; simp [hkd]
        refine ⟨rfl, ?_⟩
        simp only [Act.put, List.setIfInBounds_toArray, List.set_cons_zero, List.set_cons_succ]
        exact ⟨_, _, _, _, _, _, _, _, _, _, rfl⟩
    intro v118_0 v118_1 v118_2 v118_3 v118_4 v118_5 v118_6 v118_7 v118_8 v118_9 w4 hw
    simp only [List.drop_succ_cons, List.drop_zero, Act.put, List.setIfInBounds_toArray, List.set_cons_zero, List.set_cons_succ]
    obtain rfl := hw
    obtain ⟨T2, hT2⟩ : ∃ b, (T1 || (decide (a0 = 12) && !decide ((l5.length : Int) = 2))) = b := ⟨_, rfl⟩
    have HT2 := Lib.hid hT2
    clear hT2
    refine rst129 (fun w' => wc = w') (.bool T2) ?_ ?_
    · simp only [List.take_succ_cons, List.take_zero]
      cases T1 with
      | true =>
        go_wp2
        obtain rfl : T2 = true := by rw [← HT2.out]; simp []
        refine ⟨rfl, ?_⟩
        simp only [Act.put, List.setIfInBounds_toArray, List.set_cons_zero, List.set_cons_succ]
        exact ⟨_, _, _, _, _, _, _, _, _, _, rfl⟩
      | false =>
        by_cases hk : a0 = 12
        · have hk' : (a0 == 12) = true := by simpa using hk
          have hkd : decide (a0 = 12) = true := decide_eq_true hk
          clear hk
          by_cases hm : (l5.length : Int) = 2
          · have hm' : ((l5.length : Int) != 2) = false := by simpa using hm
            have hmd : decide ((l5.length : Int) = 2) = true := decide_eq_true hm
            clear hm
            go_wp2
            obtain rfl : T2 = false := by rw [← HT2.out]; simp [hkd, hmd]
            refine ⟨rfl, ?_⟩
            simp only [Act.put, List.setIfInBounds_toArray, List.set_cons_zero, List.set_cons_succ]
            exact ⟨_, _, _, _, _, _, _, _, _, _, rfl⟩
          · have hm' : ((l5.length : Int) != 2) = true := by simpa using hm
            have hmd : decide ((l5.length : Int) = 2) = false := decide_eq_false hm
            clear hm
            go_wp2
            obtain rfl : T2 = true := by rw [← HT2.out]; simp [hkd, hmd]
            refine ⟨rfl, ?_⟩
            simp only [Act.put, List.setIfInBounds_toArray, List.set_cons_zero, List.set_cons_succ]
            exact ⟨_, _, _, _, _, _, _, _, _, _, rfl⟩
        · have hk' : (a0 == 12) = false := by simpa using hk
          have hkd : decide (a0 = 12) = false := decide_eq_false hk
          clear hk
          go_wp2
          obtain rfl : T2 = false := by rw [← HT2.out]; simp [hkd]
          refine ⟨rfl, ?_⟩
          simp only [Act.put, List.setIfInBounds_toArray, List.set_cons_zero, List.set_cons_succ]
          exact ⟨_, _, _, _, _, _, _, _, _, _, rfl⟩
    intro v129_0 v129_1 v129_2 v129_3 v129_4 v129_5 v129_6 v129_7 v129_8 v129_9 w4 hw
    simp only [List.drop_succ_cons, List.drop_zero, Act.put, List.setIfInBounds_toArray, List.set_cons_zero, List.set_cons_succ]
    obtain rfl := hw
    have hTT : refB5 a0 l5 = (T2 || (!decide (a0 = 11) && !decide (a0 = 12) && decide (0 < (l5.length : Int)))) := by unfold refB5; rw [← HT2.out, ← HT1.out]
    have HTT := Lib.hid hTT
    clear hTT
    cases T2 with
    | true =>
      go_wp2
      go_meet
      exact ⟨by rw [HTT.out]; rfl, rfl⟩
    | false =>
      by_cases hk : a0 = 11
      · have hk' : (a0 != 11) = false := by simpa using hk
        have hkd : decide (a0 = 11) = true := decide_eq_true hk
        clear hk
        go_wp2
        go_meet
        exact ⟨by rw [HTT.out]; simp [hkd], rfl⟩
      · have hk' : (a0 != 11) = true := by simpa using hk
        have hkd : decide (a0 = 11) = false := decide_eq_false hk
        clear hk
        by_cases hm : a0 = 12
        · have hm' : (a0 != 12) = false := by simpa using hm
          have hmd : decide (a0 = 12) = true := decide_eq_true hm
          clear hm
          go_wp2
          go_meet
          exact ⟨by rw [HTT.out]; simp [hkd, hmd], rfl⟩
        · have hm' : (a0 != 12) = true := by simpa using hm
          have hmd : decide (a0 = 12) = false := decide_eq_false hm
          clear hm
          by_cases hz : (0 : Int) < (l5.length : Int)
          · have hz' : (0 : Int) < (l5.length : Int) := by simpa using hz
            have hzd : decide ((0 : Int) < (l5.length : Int)) = true := decide_eq_true hz
            clear hz
            go_wp2
            go_meet
            exact ⟨by rw [HTT.out]; simp [hkd, hmd, hzd], rfl⟩
          · have hz' : ¬ (0 : Int) < (l5.length : Int) := by simpa using hz
            have hzd : decide ((0 : Int) < (l5.length : Int)) = false := decide_eq_false hz
            clear hz
            go_wp2
            go_meet
            exact ⟨by rw [HTT.out]; simp [hkd, hmd, hzd], rfl⟩
  case rest =>
  obtain ⟨rfl, rfl⟩ := hcut
  generalize hB5 : refB5 a0 l5 = B5 at HI ⊢
  cases B5
  rotate_left
  · go_wp2
    go_ret
    exact ⟨by rw [HI.out]; rfl, HD7.out⟩
  clear hB5
  have q5 : wc.cell? ⟨gp, 5, none⟩ = some (.slice A5 l5.length c5) := (blk_cell HU7.out 5).trans rfl
  have HC := Lib.hid (Kd.C_below HR.out HD7.out)
  obtain ⟨N, hN⟩ : ∃ N, l5.length = N := ⟨_, rfl⟩
  rw [hN] at q5 ⊢
  have HN := Lib.hid hN
  have hNb : N ≤ 1000 := by have := HL.out; omega
  clear hN
  go_wp2_with fail
  clear q5
  go_loopw [158] (fun i wr => ∃ (k m : Nat), k ≤ N ∧ i = .int .i64 k ∧ Hid ((l5.take k).all low24 = true) ∧ wr = wc.drewN m) (fun i _ => N - (intOf i).toNat)
  case atStart => exact ⟨0, 0, Nat.zero_le _, rfl, Lib.hid (by simp), rfl⟩
  case round =>
    obtain ⟨k, m, hk, rfl, HA, rfl⟩ := hrel
    by_cases hlt : k < N
    · have hkl : k < l5.length := by have := HN.out; omega
      obtain ⟨hb, hcells⟩ : l5.length ≤ 9223372036854775807 ∧ (0 < l5.length → ∃ ad, A5 = some ad ∧ ∀ j, j < l5.length → wc.cell? (ad.add j) = some (.int .i64 (l5.getD j 0))) := (Kd.reads_of_C (d := (0 : Int)) (h1 := fun _ => rfl) HC.out).2
      obtain ⟨ad, rfl, hc⟩ := hcells (by omega)
      have hcell := hc k hkl
      have hg : l5.getD k 0 = l5[k] := by rw [List.getD_eq_getElem?_getD, List.getElem?_eq_getElem hkl]; rfl
      rw [hg] at hcell
      obtain ⟨x, hx⟩ : ∃ x, l5[k] = x := ⟨_, rfl⟩
      rw [hx] at hcell
      have HX := Lib.hid hx
      have HKL := Lib.hid hkl
      clear hx hg hc hb
      cases hb2 : low24 x with
      | true =>
        have HB : Hid (low24 x = true) := Lib.hid hb2
        have hT : Hid ((l5.take (k + 1)).all low24 = true) := Lib.hid (by rw [List.take_succ_eq_append_getElem HKL.out, List.all_append, HA.out, HX.out]; simp [HB.out])
        clear hb2
        go_wp2_with (go_at_call 62; refine (refLow_any _ _).mono ?_; rintro e w' ⟨rfl, n, rfl⟩; rw [HB.out])
        go_roundw
        case rel => exact ⟨k + 1, _, by omega, by go_num, hT, rfl⟩
        case measure => simp [intOf]; omega
      | false =>
        have HB : Hid (low24 x = false) := Lib.hid hb2
        have hT : Hid (l5.all low24 = false) := Lib.hid (by rw [List.all_eq_false]; exact ⟨l5[k]'HKL.out, List.getElem_mem HKL.out, by rw [HX.out, HB.out]; decide⟩)
        clear hb2
        go_wp2_with (go_at_call 62; refine (refLow_any _ _).mono ?_; rintro e w' ⟨rfl, n, rfl⟩; rw [HB.out])
        go_ret
        exact ⟨by rw [HI.out, hT.out]; rfl, by repeat (first | exact HD7.out | apply pw_below_drewN)⟩
    · have hT : Hid (l5.all low24 = true) := Lib.hid (by have := HA.out; rw [List.take_of_length_le (by have := HN.out; omega)] at this; exact this)
      go_wp2
      go_ret
      exact ⟨by rw [HI.out, hT.out]; rfl, by repeat (first | exact HD7.out | apply pw_below_drewN)⟩
theorem refCheck_any (a0 a1 a2 a3 a4 : Int) (A5 : Option Addr) (c5 : Nat) (l5 : List Int) (a6 : Bool) (a7 : ByteArray) (w : World) (hr : Kd.C (Kd.int .i64) w A5 l5.length l5) (hcap : l5.length ≤ c5) (hl : l5.length ≤ 1000) :
    Calls Tryd.prog 37 #[.agg #[.int .i64 a0, .int .i64 a1, .int .i64 a2, .int .i64 a3, .int .i64 a4, .slice A5 l5.length c5, .bool a6, .string a7]] w fun e w' => e = .returned (.int .i64 (refI a0 a1 a2 a3 a4 l5 a6 a7)) ∧ Below w.heap.size w w' := by
  by_cases hk : a0 < 1 ∨ 15 < a0
  · exact refCheck_out a0 a1 a2 a3 a4 A5 c5 l5 a6 a7 w hk
  · cases hB1 : refB1 a0 l5 a7
    · cases hB2 : refB2 a0 a1 a2 a3 a4 a7
      · exact refCheck_in a0 a1 a2 a3 a4 A5 c5 l5 a6 a7 w hr hcap hl hk hB1 hB2
      · exact refCheck_b2 a0 a1 a2 a3 a4 A5 c5 l5 a6 a7 w hr hcap hl hk hB1 hB2
    · exact refCheck_b1 a0 a1 a2 a3 a4 A5 c5 l5 a6 a7 w hr hcap hl hk hB1
/-- polliwogref06.Check: what it gives. -/
def polliwogref06_Check.f (k : Nat) (a0 a1 a2 a3 a4 : Int) (l5 : List Int) (a6 : Bool) (a7 : ByteArray) : Option Int := if l5.length ≤ 1000 then some (refI a0 a1 a2 a3 a4 l5 a6 a7) else none
theorem polliwogref06_Check.mono : ∀ a0 a1 a2 a3 a4 a5 a6 a7 k, LeO (polliwogref06_Check.f k a0 a1 a2 a3 a4 a5 a6 a7) (polliwogref06_Check.f (k + 1) a0 a1 a2 a3 a4 a5 a6 a7) := fun _ _ _ _ _ _ _ _ _ => LeO.refl _
theorem polliwogref06_Check.calls (k : Nat) (a0_0 : Int) (a0_1 : Int) (a0_2 : Int) (a0_3 : Int) (a0_4 : Int) (A0_5 : Option Addr) (c0_5 : Nat) (l0_5 : List Int) (a0_6 : Bool) (a0_7 : ByteArray) (r : Int) (w : World) (hr0_5 : Kd.C (Kd.int .i64) w A0_5 l0_5.length l0_5) (hc0_5 : l0_5.length ≤ c0_5) (h : polliwogref06_Check.f k a0_0 a0_1 a0_2 a0_3 a0_4 l0_5 a0_6 a0_7 = some r) :
    Calls Tryd.prog 37 #[.agg #[.int .i64 a0_0, .int .i64 a0_1, .int .i64 a0_2, .int .i64 a0_3, .int .i64 a0_4, .slice A0_5 l0_5.length c0_5, .bool a0_6, .string a0_7]] w fun e w' => e = .returned (.int .i64 r) ∧ Below w.heap.size w w' := by
  unfold polliwogref06_Check.f at h
  split at h
  · rename_i hl
    obtain rfl := Option.some.inj h
    exact refCheck_any a0_0 a0_1 a0_2 a0_3 a0_4 A0_5 c0_5 l0_5 a0_6 a0_7 w hr0_5 hc0_5 hl
  · simp at h
end Go.Proofs.YtjbnihaekgmhlaaDoor
