/- Any text is just the document's steps, or told at its line: plain, then the walk's end. -/
import Derived.Test.YthffifgjodikiaaDoorLrfo
import Derived.Test.YthffifgjodikiaaDoorF9
namespace Go.Proofs.YthffifgjodikiaaDoor
open Go.RowKit Pr Go.Proofs.YthffifgjodikiaaDoorW.PrintWords Go.Proofs.YthffifgjodikiaaDoorW.PrintLast Go.Proofs.YthffifgjodikiaaDoorW.PrintMore
set_option linter.unusedSimpArgs false
set_option linter.unusedVariables false

theorem takeP_len {c : Int} {x : ByteArray} {st st' : StL} (h : takeP c x st = some st') : st'.1.length ≤ st.1.length + 1 := by
  unfold takeP at h
  split at h
  · split at h
    · obtain rfl := Option.some.inj h
      simp
    · cases h
  · split at h
    · cases hu : unhexL x.data.toList with
      | none => rw [hu] at h; cases h
      | some u => rw [hu] at h; obtain rfl := Option.some.inj h; simp
    · split at h
      · obtain rfl := Option.some.inj h
        simp
      · cases h
theorem stepGo_len : ∀ (cs : List UInt8) (xs : List ByteArray) (st st' : StL), stepGo cs xs st = some st' → st'.1.length ≤ st.1.length + cs.length
  | [], _, st, st', h => by
    obtain rfl := Option.some.inj h
    simp
  | c :: cs, [], st, st', h => by cases h
  | c :: cs, x :: xs, st, st', h => by
    unfold stepGo at h
    obtain ⟨s1, h1, h2⟩ := Option.bind_eq_some_iff.1 h
    have a := takeP_len h1
    have b := stepGo_len cs xs s1 st' h2
    simp only [List.length_cons]
    omega
theorem stepP_len {s : ByteArray} {r : ByteArray × StL} (h : stepP s = some r) : (stepS r).f1.length ≤ 6 := by
  unfold stepP at h
  split at h
  · obtain ⟨st, h1, h2⟩ := Option.map_eq_some_iff.1 h
    have a := stepGo_len _ _ _ _ h1
    have b := needs_size ((wordsOf s).headD ⟨#[]⟩)
    have e : (needsI ((wordsOf s).headD ⟨#[]⟩)).1.data.toList.length = (needsI ((wordsOf s).headD ⟨#[]⟩)).1.size := by rw [Array.length_toList]; rfl
    rw [← h2]
    show st.1.length ≤ 6
    simp only [List.length_nil] at a
    omega
  · cases h
theorem parseGo_may : ∀ (ls : List ByteArray) (n : Nat) (out : List S55), out.length ≤ 400 → (∀ x ∈ out, x.f1.length ≤ 6) → (parseGo ls n out).1.length ≤ 400 ∧ ∀ x ∈ (parseGo ls n out).1, x.f1.length ≤ 6
  | [], n, out, h1, h2 => ⟨h1, h2⟩
  | l :: ls, n, out, h1, h2 => by
    by_cases hs : skipL l = true
    · rw [par_skip _ _ _ _ hs]
      exact parseGo_may ls (n + 1) out h1 h2
    · have hs2 : skipL l = false := by simpa using hs
      cases hp : stepP l with
      | none =>
        rw [par_none _ _ _ _ hs2 hp]
        exact ⟨Nat.zero_le _, fun x hx => by cases hx⟩
      | some r =>
        by_cases hf : out.length = 400
        · rw [par_full _ _ _ _ r hs2 hp hf]
          exact ⟨Nat.zero_le _, fun x hx => by cases hx⟩
        · rw [par_more _ _ _ _ r hs2 hp hf]
          refine parseGo_may ls (n + 1) _ (by rw [List.length_append, List.length_singleton]; omega) (fun x hx => ?_)
          rcases List.mem_append.1 hx with hx | hx
          · exact h2 x hx
          · rw [List.mem_singleton.1 hx]
            exact stepP_len hp
/-! polliwoglaw23.Same, of a step and itself. -/
theorem same_l0 (w a d : ByteArray) (nums : List Int) (hn : nums.length ≤ 1000) : ∀ (e i : Nat), i + e = nums.length → Ev (fun k => polliwoglaw23_Same.l0 k nums (nums.length : Int) (i : Int) w nums a d) true
  | 0, i, h => by
    refine Ev.step (f := fun _ => some true) (fun k => ?_) (Ev.now _)
    simp only [polliwoglaw23_Same.l0]
    rw [if_neg (by omega)]
  | e + 1, i, h => by
    refine Ev.step (fun k => ?_) (same_l0 w a d nums hn e (i + 1) (by omega))
    simp only [polliwoglaw23_Same.l0]
    rw [if_pos (by omega), if_pos (by omega), if_pos (by omega), if_pos (by omega), if_pos trivial, wr1 i (by omega)]
theorem same_ev (w a d : ByteArray) (nums : List Int) (hn : nums.length ≤ 1000) : Ev (fun k => polliwoglaw23_Same.f k w nums a d w nums a d) true := by
  refine Ev.congr (f := fun k => polliwoglaw23_Same.j0 k false w nums a d w nums a d) (fun k => ?_) ?_
  · unfold polliwoglaw23_Same.f
    rw [if_pos rfl, if_pos rfl, if_pos rfl]
    congr 1
    simp
  · refine Ev.step (fun k => ?_) (same_l0 w a d nums hn nums.length 0 (by omega))
    simp only [polliwoglaw23_Same.j0]
    rw [if_neg (by simp)]
    rfl
set_option maxRecDepth 100000 in
theorem awake23 : polliwoglaw23_awake.f = some true := by decide +kernel
theorem laws_l0 (L : List S55) (hL : L.length ≤ 400) (hm : ∀ x ∈ L, x.f1.length ≤ 6) : ∀ (d i : Nat), i + d = L.length → Ev (fun k => polliwoglaw23_LineParses.l0 k L (L.map toR) ((L.map toR).length : Int) (i : Int)) true
  | 0, i, h => by
    refine Ev.step (f := fun _ => some true) (fun k => ?_) (Ev.now _)
    simp only [polliwoglaw23_LineParses.l0]
    rw [if_neg (by rw [List.length_map]; omega)]
  | d + 1, i, h => by
    have hi : i < L.length := by omega
    have e1 : rd_T55 L (i : Int) = L[i] := by
      unfold rd_T55
      rw [Int.toNat_natCast, List.getD_eq_getElem?_getD, List.getElem?_eq_getElem hi]
      rfl
    have e2 : rd_T53 (L.map toR) (i : Int) = toR L[i] := by
      unfold rd_T53
      rw [Int.toNat_natCast, List.getD_eq_getElem?_getD, List.getElem?_map, List.getElem?_eq_getElem hi]
      rfl
    refine Ev.step (f := fun k => (polliwoglaw23_Same.f k L[i].f0 L[i].f1 L[i].f2 L[i].f3 L[i].f0 L[i].f1 L[i].f2 L[i].f3).bind fun t304 => (if t304 = true then (polliwoglaw23_LineParses.l0 k L (L.map toR) ((L.map toR).length : Int) ((i + 1 : Nat) : Int)) else (some false))) (fun k => ?_) ?_
    · simp only [polliwoglaw23_LineParses.l0]
      rw [if_pos (by rw [List.length_map]; omega), if_pos (by omega), if_pos (by rw [List.length_map]; omega), if_pos (by omega), e1, e2, wr1 i (by omega)]
      rfl
    · refine Ev.bind (same_ev _ _ _ _ (by have := hm L[i] (List.getElem_mem hi); omega)) ?_
      exact Ev.congr (fun k => by rw [if_pos rfl]) (laws_l0 L hL hm d (i + 1) (by omega))
theorem cut_le (s : ByteArray) (n : Nat) : ∃ r, polliwoglaw02_Cut.f s (n : Int) = some r ∧ r.size ≤ n := by
  unfold polliwoglaw02_Cut.f
  by_cases h : (s.size : Int) > (n : Int)
  · rw [if_pos h, if_pos (by omega), if_pos (by omega)]
    exact ⟨_, rfl, by rw [ByteArray.size_extract]; omega⟩
  · rw [if_neg h]
    exact ⟨s, rfl, by omega⟩
theorem LineParses_pure (a0 : ByteArray) : ∃ k, polliwoglaw23_LineParses.f k a0 = some true := by
  obtain ⟨s, hc, hs⟩ := cut_le a0 3000
  have hc' : polliwoglaw02_Cut.f a0 3000 = some s := hc
  have hp : line_Parse.f s = some (parseGo (linesOf s) 0 []) := by unfold line_Parse.f; rw [if_pos (by omega)]
  have hr := parse_ev s (by omega)
  obtain ⟨h1, h2⟩ := parseGo_may (linesOf s) 0 [] (by simp) (fun x hx => by cases hx)
  refine Ev.rounds (g := fun k => polliwoglaw23_LineParses.f k a0) ?_
  refine Ev.congr (f := fun k => (polliwogref23_Parse.f k s).bind fun bt296 => (if ((parseGo (linesOf s) 0 []).2.2 != bt296.2.2) = true then (polliwoglaw23_LineParses.j0 k (parseGo (linesOf s) 0 []).1 bt296.1 true) else (if (parseGo (linesOf s) 0 []).2.1 = bt296.2.1 then (polliwoglaw23_LineParses.j0 k (parseGo (linesOf s) 0 []).1 bt296.1 (((parseGo (linesOf s) 0 []).1.length : Int) != (bt296.1.length : Int))) else (polliwoglaw23_LineParses.j0 k (parseGo (linesOf s) 0 []).1 bt296.1 true)))) (fun k => ?_) ?_
  · unfold polliwoglaw23_LineParses.f
    rw [awake23]
    simp only [Option.bind_some, if_true, hc', hp]
  · refine Ev.bind hr ?_
    refine Ev.congr (f := fun k => polliwoglaw23_LineParses.j0 k (parseGo (linesOf s) 0 []).1 ((parseGo (linesOf s) 0 []).1.map toR) false) (fun k => ?_) ?_
    · unfold toP
      rw [if_neg (by simp), if_pos rfl]
      congr 1
      simp
    · refine Ev.step (fun k => ?_) (laws_l0 _ h1 h2 (parseGo (linesOf s) 0 []).1.length 0 (by omega))
      simp only [polliwoglaw23_LineParses.j0]
      rw [if_neg (by simp)]
      rfl
theorem LineParses_walk (a0 : ByteArray) (w : World) (_ : a0.size ≤ 140737488351232) (hG : LTab w) :
    Calls Tryd.prog 9 #[.string a0] w fun e w' => e = .returned (.bool true) ∧ Below w.heap.size w w' := by
  obtain ⟨k, hk⟩ := LineParses_pure a0
  exact polliwoglaw23_LineParses.calls k a0 true w hG hk
end Go.Proofs.YthffifgjodikiaaDoor
