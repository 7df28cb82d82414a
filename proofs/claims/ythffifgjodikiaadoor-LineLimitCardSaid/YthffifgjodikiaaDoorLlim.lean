/- 400 steps are read, one more is told at its line, and a bad line at its own. -/
import Derived.Test.YthffifgjodikiaaDoorLrfo
import Derived.Test.YthffifgjodikiaaDoorF10
namespace Go.Proofs.YthffifgjodikiaaDoor
open Go.RowKit Pr Go.Proofs.YthffifgjodikiaaDoorW.PrintWords Go.Proofs.YthffifgjodikiaaDoorW.PrintLast Go.Proofs.YthffifgjodikiaaDoorW.PrintMore
set_option linter.unusedSimpArgs false
set_option linter.unusedVariables false

def bookL : List UInt8 := [98, 111, 111, 107]
def noteL : List UInt8 := [35, 32, 97, 32, 110, 111, 116, 101]
/-- So many lines of one step, and a tail. -/
def booksL : Nat → List UInt8 → List UInt8
  | 0, t => t
  | n + 1, t => bookL ++ 10 :: booksL n t
theorem split_books (t : List UInt8) : ∀ n, splitL 10 (booksL n t) = List.replicate n bookL ++ splitL 10 t
  | 0 => rfl
  | n + 1 => by
    show splitL 10 (bookL ++ 10 :: booksL n t) = _
    rw [splitL_hit 10 _ bookL (by decide), split_books t n, List.replicate_succ, List.cons_append]
theorem lines_books (n : Nat) (t : List UInt8) (ht : ∀ x ∈ t, x ≠ 10) (s : ByteArray) (hs : s.data.toList = noteL ++ 10 :: booksL n t) : linesOf s = mkB noteL :: (List.replicate n (mkB bookL) ++ [mkB t]) := by
  rw [lines_L, hs, splitL_hit 10 _ noteL (by decide), split_books, splitL_no 10 t ht]
  simp
theorem book_step : ∃ r, stepP (mkB bookL) = some r := Option.isSome_iff_exists.1 (by decide +kernel)
theorem books_none : stepP (mkB (bookL ++ [115])) = none := Option.isNone_iff_eq_none.1 (by decide +kernel)
theorem skip_note : skipL (mkB noteL) = true := by decide +kernel
theorem skip_book : skipL (mkB bookL) = false := by decide +kernel
theorem skip_books : skipL (mkB (bookL ++ [115])) = false := by decide +kernel
theorem skip_nil : skipL (mkB []) = true := by decide +kernel
theorem go_books {r : ByteArray × StL} (hr : stepP (mkB bookL) = some r) (rest : List ByteArray) : ∀ (m n : Nat) (out : List S55), out.length + m ≤ 400 → parseGo (List.replicate m (mkB bookL) ++ rest) n out = parseGo rest (n + m) (out ++ List.replicate m (stepS r))
  | 0, n, out, h => by simp
  | m + 1, n, out, h => by
    rw [List.replicate_succ, List.cons_append, par_more _ _ _ _ r skip_book hr (by omega), go_books hr rest m (n + 1) _ (by rw [List.length_append, List.length_singleton]; omega)]
    rw [List.replicate_succ, List.append_assoc, List.singleton_append, Nat.add_assoc, Nat.add_comm 1 m]
theorem lim_over (n : Nat) (hn : 400 < n) (rest : List ByteArray) : parseGo (mkB noteL :: (List.replicate n (mkB bookL) ++ rest)) 0 [] = ([], 402, false) := by
  obtain ⟨r, hr⟩ := book_step
  obtain ⟨m, rfl⟩ : ∃ m, n = 400 + (m + 1) := ⟨n - 401, by omega⟩
  rw [par_skip _ _ _ _ skip_note, ← List.replicate_append_replicate, List.append_assoc, go_books hr _ 400 _ _ (by simp), List.replicate_succ, List.cons_append, par_full _ _ _ _ r skip_book hr (by rw [List.nil_append, List.length_replicate])]
  rfl
theorem lim_bad (n : Nat) (hn : n ≤ 400) : parseGo (mkB noteL :: (List.replicate n (mkB bookL) ++ [mkB (bookL ++ [115])])) 0 [] = ([], (n : Int) + 2, false) := by
  obtain ⟨r, hr⟩ := book_step
  rw [par_skip _ _ _ _ skip_note, go_books hr _ n _ _ (by simpa using hn), par_none _ _ _ _ skip_books books_none]
  congr 2
  omega
theorem lim_good (n : Nat) (hn : n ≤ 400) : ∃ L, parseGo (mkB noteL :: (List.replicate n (mkB bookL) ++ [mkB []])) 0 [] = (L, 0, true) ∧ L.length = n := by
  obtain ⟨r, hr⟩ := book_step
  refine ⟨List.replicate n (stepS r), ?_, by simp⟩
  rw [par_skip _ _ _ _ skip_note, go_books hr _ n _ _ (by simpa using hn), par_skip _ _ _ _ skip_nil]
  simp [parseGo]
theorem books_app (t : List UInt8) : ∀ n, booksL n t = booksL n [] ++ t
  | 0 => rfl
  | n + 1 => by
    show bookL ++ 10 :: booksL n t = (bookL ++ 10 :: booksL n []) ++ t
    rw [books_app t n]
    simp
theorem books_len : ∀ n, (booksL n []).length = 5 * n
  | 0 => rfl
  | n + 1 => by
    show (bookL ++ 10 :: booksL n []).length = _
    rw [List.length_append, List.length_cons, books_len n]
    show 4 + (5 * n + 1) = _
    omega
theorem lim_j (n : Nat) (a1 : Bool) (hn : n ≤ 410) (s : ByteArray) (hs : s.data.toList = noteL ++ 10 :: booksL n (if a1 = true then bookL ++ [115] else [])) : Ev (fun k => polliwoglaw23_LineLimit.j1 k (n : Int) a1 s) true := by
  have hz : s.size ≤ 1000000 := by
    have e : s.data.toList.length = s.size := by rw [Array.length_toList]; rfl
    rw [hs, books_app, List.length_append, List.length_cons, List.length_append, books_len] at e
    have e2 : (if a1 = true then bookL ++ [115] else []).length ≤ 5 := by cases a1 <;> decide
    have e3 : noteL.length = 8 := rfl
    omega
  have hl := lines_books n (if a1 = true then bookL ++ [115] else []) (by cases a1 <;> decide) s hs
  have hp : line_Parse.f s = some (parseGo (linesOf s) 0 []) := by unfold line_Parse.f; rw [if_pos hz]
  refine Ev.step (f := fun _ => some true) (fun k => ?_) (Ev.now _)
  simp only [polliwoglaw23_LineLimit.j1]
  rw [hp, hl, Option.bind_some]
  by_cases h4 : 400 < n
  · rw [lim_over n h4, if_pos (by omega)]
    rfl
  · rw [if_neg (by omega)]
    cases a1 with
    | true =>
      rw [if_pos rfl, if_pos rfl, lim_bad n (by omega)]
      show (if (0 : Int) = 0 then (if (n : Int) + 2 = wrap64 ((n : Int) + 2) then some true else some false) else some false) = some true
      rw [if_pos rfl, if_pos (by unfold wrap64; omega)]
    | false =>
      obtain ⟨L, e, eL⟩ := lim_good n (by omega)
      rw [if_neg (show ¬ (false = true) by simp), if_neg (show ¬ (false = true) by simp), e]
      show (if (L.length : Int) = (n : Int) then (if (0 : Int) = 0 then some true else some false) else some false) = some true
      rw [if_pos (by rw [eL]), if_pos rfl]
theorem wrl (i : Nat) (h : i ≤ 1000) : wrap64 ((i : Int) + 1) = ((i + 1 : Nat) : Int) := by unfold wrap64; omega
theorem lim_l (n : Nat) (a1 : Bool) (hn : n ≤ 410) : ∀ (e i : Nat) (s : ByteArray), i + e = n → s.size ≤ 9 + 5 * i → s.data.toList ++ booksL e (if a1 = true then bookL ++ [115] else []) = noteL ++ 10 :: booksL n (if a1 = true then bookL ++ [115] else []) → Ev (fun k => polliwoglaw23_LineLimit.l0 k (n : Int) a1 s (n : Int) (i : Int)) true
  | 0, i, s, hi, hz, h => by
    cases a1 with
    | true =>
      refine Ev.step (fun k => ?_) (lim_j n true hn (s ++ (⟨#[98, 111, 111, 107, 115]⟩ : ByteArray)) (by rw [ByteArray.data_append, Array.toList_append, ← h]; rfl))
      simp only [polliwoglaw23_LineLimit.l0]
      rw [if_neg (by omega), if_pos trivial, if_pos (by omega)]
    | false =>
      refine Ev.step (fun k => ?_) (lim_j n false hn s (by rw [← h]; simp [booksL]))
      simp only [polliwoglaw23_LineLimit.l0]
      rw [if_neg (by omega), if_neg (by simp)]
  | e + 1, i, s, hi, hz, h => by
    refine Ev.step (fun k => ?_) (lim_l n a1 hn e (i + 1) (s ++ (⟨#[98, 111, 111, 107, 10]⟩ : ByteArray)) (by omega) (by rw [ByteArray.size_append]; show s.size + 5 ≤ _; omega) (by
      rw [← h, ByteArray.data_append, Array.toList_append]
      show s.data.toList ++ [98, 111, 111, 107, 10] ++ _ = s.data.toList ++ (bookL ++ 10 :: booksL e _)
      simp [bookL]))
    simp only [polliwoglaw23_LineLimit.l0]
    rw [if_pos (by omega), if_pos (by omega), wrl i (by omega)]
set_option maxRecDepth 100000 in
theorem awake_lim : polliwoglaw23_awake.f = some true := by decide +kernel
theorem LineLimit_pure (a0 : Int) (a1 : Bool) : ∃ k, polliwoglaw23_LineLimit.f k a0 a1 = some true := by
  obtain ⟨n, hn, hle⟩ : ∃ n : Nat, mx 0 (mn a0 410) = (n : Int) ∧ n ≤ 410 := by
    refine ⟨(mx 0 (mn a0 410)).toNat, ?_, ?_⟩ <;> unfold mx mn <;> (repeat' split) <;> omega
  refine Ev.rounds (g := fun k => polliwoglaw23_LineLimit.f k a0 a1) ?_
  refine Ev.congr (fun k => ?_) (lim_l n a1 hle n 0 (⟨#[35, 32, 97, 32, 110, 111, 116, 101, 10]⟩ : ByteArray) (by omega) (by decide) (by simp [noteL]))
  unfold polliwoglaw23_LineLimit.f
  rw [awake_lim, Option.bind_some, if_pos rfl, hn]
  rfl
theorem LineLimit_walk (a0 : Int) (a1 : Bool) (w : World) (_ : (Lit.int .i64 a0).wf = true) (hG : LTab w) :
    Calls Tryd.prog 10 #[.int .i64 a0, .bool a1] w fun e w' => e = .returned (.bool true) ∧ Below w.heap.size w w' := by
  obtain ⟨k, hk⟩ := LineLimit_pure a0 a1
  exact polliwoglaw23_LineLimit.calls k a0 a1 true w hG hk
end Go.Proofs.YthffifgjodikiaaDoor
