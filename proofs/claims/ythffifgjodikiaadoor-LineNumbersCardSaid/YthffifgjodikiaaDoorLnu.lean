/- A number is just its digits, up to the greatest one; an end is 0 or 1: plain. -/
import Derived.Test.YthffifgjodikiaaDoorLrfo
import Derived.DataShut
import Derived.Test.YthffifgjodikiaaDoorF11
namespace Go.Proofs.YthffifgjodikiaaDoor
open Go.RowKit Pr Go.Proofs.YthffifgjodikiaaDoorW.PrintWords Go.Proofs.YthffifgjodikiaaDoorW.PrintLast Go.Proofs.YthffifgjodikiaaDoorW.PrintMore
set_option linter.unusedSimpArgs false
set_option linter.unusedVariables false

def tickL : List UInt8 := [116, 105, 99, 107]
def lookL : List UInt8 := [108, 111, 111, 107]
theorem need_tick : needsI (mkB tickL) = (⟨#[78]⟩, true) := by decide +kernel
theorem need_look : needsI (mkB lookL) = (⟨#[69]⟩, true) := by decide +kernel
/-- A line of one word and one number, or more words. -/
theorem step_num (h : List UInt8) (c : UInt8) (hc : c = 78 ∨ c = 69) (hn : needsI (mkB h) = (⟨#[c]⟩, true)) (hh : ∀ x ∈ h, x ≠ 32) (u : List UInt8) (s : ByteArray) (hs : s.data.toList = h ++ 32 :: u) :
    stepP s = match (splitL 32 u).map mkB with
      | [x] => if (numL x.data.toList).2 = true ∧ (c ≠ 69 ∨ (numL x.data.toList).1 ≤ 1) then some (mkB h, [(numL x.data.toList).1], ⟨#[]⟩, ⟨#[]⟩) else none
      | _ => none := by
  have hw : wordsOf s = mkB h :: (splitL 32 u).map mkB := by rw [words_L, hs, splitL_hit 32 u h hh]; rfl
  unfold stepP
  rw [hw]
  simp only [List.headD_cons, List.tail_cons, hn]
  cases hq : (splitL 32 u).map mkB with
  | nil => exact absurd (List.map_eq_nil_iff.1 hq) (splitL_ne _ _)
  | cons x r =>
    cases r with
    | nil =>
      have hz : (⟨#[c]⟩ : ByteArray).size = 1 := rfl
      rw [if_pos ⟨by trivial, by rw [hz]; rfl⟩]
      have hcn : (c.toNat : Int) ≠ 87 ∧ (c.toNat : Int) ≠ 72 := by rcases hc with rfl | rfl <;> decide
      have hce : ((c.toNat : Int) ≠ 69) ↔ (c ≠ 69) := by rcases hc with rfl | rfl <;> simp
      show ((takeP (c.toNat : Int) x ([], ⟨#[]⟩, ⟨#[]⟩)).bind fun st => some st).map (fun st => (mkB h, st)) = _
      unfold takeP
      rw [if_neg hcn.1, if_neg hcn.2]
      show _ = if (numL x.data.toList).2 = true ∧ (c ≠ 69 ∨ (numL x.data.toList).1 ≤ 1) then some (mkB h, [(numL x.data.toList).1], (⟨#[]⟩ : ByteArray), (⟨#[]⟩ : ByteArray)) else none
      by_cases hq2 : (numL x.data.toList).2 = true ∧ (c ≠ 69 ∨ (numL x.data.toList).1 ≤ 1)
      · rw [if_pos ⟨hq2.1, hq2.2.imp hce.2 id⟩, if_pos hq2]
        rfl
      · rw [if_neg (fun q => hq2 ⟨q.1, q.2.imp hce.1 id⟩), if_neg hq2]
        rfl
    | cons y r =>
      rw [if_neg (fun q => by have := q.2; simp only [List.length_cons] at this; have hz : (⟨#[c]⟩ : ByteArray).size = 1 := rfl; omega)]
/-- One line, not skipped. -/
theorem parse_line (s : ByteArray) (hl : ∀ x ∈ s.data.toList, x ≠ 10) (hk : skipL s = false) : parseGo (linesOf s) 0 [] = match stepP s with
    | some r => ([stepS r], 0, true)
    | none => ([], 1, false) := by
  have e : mkB s.data.toList = s := ba_ext (by simp [mkB])
  rw [lines_L, splitL_no 10 _ hl, List.map_cons, List.map_nil, e]
  cases hp : stepP s with
  | none =>
    rw [par_none _ _ _ _ hk hp]
    rfl
  | some r =>
    rw [par_more _ _ _ _ r hk hp (by simp)]
    rfl
theorem skip_word (h : List UInt8) (c : UInt8) (hc : c ≠ 35) (s : ByteArray) (hs : s.data.toList = c :: h) : skipL s = false := by
  unfold skipL
  rw [ByteArray.toList_eq, hs]
  simp [Lib.hasPrefix, List.isPrefixOf, Ne.symm hc]
theorem ev_same {g : Nat → Option (ByteArray × List Int × ByteArray × ByteArray × Bool)} {a b} (hm : ∀ k, LeO (g k) (g (k + 1))) (ha : Ev g a) {k : Nat} (hb : g k = some b) : a = b := by
  obtain ⟨K1, h1⟩ := ha
  obtain ⟨K2, h2⟩ := Ev.of hm hb
  have e1 := h1 (max K1 K2) (Nat.le_max_left _ _)
  have e2 := h2 (max K1 K2) (Nat.le_max_right _ _)
  exact Option.some.inj (e1.symm.trans e2)
/-- Parse and One answer alike of a line that starts as a tick. -/
theorem tick_same (t s : ByteArray) (ht : ∀ x ∈ t.data.toList, x ≠ 10) (hs : ∀ x ∈ s.data.toList, x ≠ 10) {x1 x2 b c1 c2 c3 c4 d} {kk : Nat}
    (hp : line_Parse.f (((⟨#[116, 105, 99, 107, 32]⟩ : ByteArray) ++ t) ++ s) = some (x1, x2, b)) (ho : polliwogref23_One.f kk (((⟨#[116, 105, 99, 107, 32]⟩ : ByteArray) ++ t) ++ s) = some (c1, c2, c3, c4, d)) : b = d ∧ (d = true → ((c2.length : Int) == 1) = true) := by
  obtain ⟨S, hS⟩ : ∃ S, ((⟨#[116, 105, 99, 107, 32]⟩ : ByteArray) ++ t) ++ s = S := ⟨_, rfl⟩
  have hd : S.data.toList = tickL ++ 32 :: (t.data.toList ++ s.data.toList) := by
    rw [← hS, ByteArray.data_append, ByteArray.data_append, Array.toList_append, Array.toList_append]
    simp [tickL]
  rw [hS] at hp ho
  unfold line_Parse.f at hp
  split at hp
  · rename_i hz
    have hp := Option.some.inj hp
    have hl : ∀ x ∈ S.data.toList, x ≠ 10 := by
      intro x hx
      rw [hd] at hx
      rcases List.mem_append.1 hx with h | h
      · exact (by decide : ∀ x ∈ tickL, x ≠ 10) x h
      · rcases List.mem_cons.1 h with h | h
        · subst h; decide
        · rcases List.mem_append.1 h with h | h
          · exact ht x h
          · exact hs x h
    rw [parse_line S hl (skip_word _ 116 (by decide) S hd)] at hp
    have he := ev_same (polliwogref23_One.mono S) (one_ev S hz) ho
    have hst := step_num tickL 78 (.inl rfl) need_tick (by decide) _ S hd
    cases hq : stepP S with
    | none =>
      rw [hq] at hp he
      obtain ⟨-, -, rfl⟩ : [] = x1 ∧ (1 : Int) = x2 ∧ false = b := by simpa using hp
      have := congrArg (fun z => z.2.2.2.2) he
      exact ⟨this, fun hd => by subst hd; cases this⟩
    | some r =>
      rw [hq] at hp he
      have e1 : true = b := congrArg (fun z => z.2.2) hp
      have e2 : true = d := congrArg (fun z => z.2.2.2.2) he
      have e3 : r.2.1 = c2 := congrArg (fun z => z.2.1) he
      refine ⟨e1.symm.trans e2, fun _ => ?_⟩
      rw [hq] at hst
      rw [← e3]
      split at hst
      · split at hst
        · rw [Option.some.inj hst]; rfl
        · cases hst
      · cases hst
  · cases hp
theorem valF_app (b : UInt8) : ∀ (l : List UInt8) (x : Nat), valF x (l ++ [b]) = 10 * valF x l + (b.toNat - 48)
  | [], x => rfl
  | c :: l, x => by
    show valF (10 * x + (c.toNat - 48)) (l ++ [b]) = _
    rw [valF_app b l]
    rfl
theorem dig_of (r : Nat) (h : r < 10) : (UInt8.ofNat (48 + r)).toNat = 48 + r := by rw [UInt8.toNat_ofNat']; omega
theorem dec_all (N : Nat) : valF 0 (Lib.decDigits N) = N ∧ (∀ c ∈ Lib.decDigits N, digB c = true) ∧ Lib.decDigits N ≠ [] := by
  induction N using Nat.strongRecOn with
  | ind N ih =>
    by_cases h : N < 10
    · rw [dec_small N h]
      refine ⟨?_, fun c hc => ?_, by simp⟩
      · show 10 * 0 + ((UInt8.ofNat (48 + N)).toNat - 48) = N
        rw [dig_of N h]; omega
      · rw [List.mem_singleton.1 hc, digB_iff, dig_of N h]; omega
    · obtain ⟨h1, h2, h3⟩ := ih (N / 10) (by omega)
      rw [dec_big N h]
      refine ⟨?_, fun c hc => ?_, by simp⟩
      · rw [valF_app, h1, dig_of _ (by omega)]; omega
      · rcases List.mem_append.1 hc with hc | hc
        · exact h2 c hc
        · rw [List.mem_singleton.1 hc, digB_iff, dig_of _ (by omega)]; omega
theorem numL_dec (N : Nat) : (numL (Lib.decDigits N)).2 = decide (N ≤ 1099511627776) ∧ ((numL (Lib.decDigits N)).2 = true → (numL (Lib.decDigits N)).1 = (N : Int)) := by
  obtain ⟨h1, h2, h3⟩ := dec_all N
  obtain ⟨b, t, hbt⟩ : ∃ b t, Lib.decDigits N = b :: t := by
    cases h : Lib.decDigits N with
    | nil => exact absurd h h3
    | cons b t => exact ⟨b, t, rfl⟩
  rw [hbt] at h1 h2 ⊢
  obtain ⟨e1, e2⟩ := numL_digits b t h2
  rw [h1] at e1 e2
  refine ⟨?_, e2⟩
  rw [e1]
  simp [hbt]
theorem dec_len (N : Nat) (h : N ≤ 9223372036854775807) : (Lib.decDigits N).length ≤ 900 := by
  have hl := Lib.itoa_length_le (N : Int) (by omega) (by omega)
  have e : Lib.itoa (N : Int) = Lib.decDigits N := by unfold Lib.itoa; rw [if_neg (by omega)]; simp
  rw [e] at hl
  omega
theorem dig_ne (l : List UInt8) (h : ∀ c ∈ l, digB c = true) (b : UInt8) (hb : b.toNat < 48) : ∀ c ∈ l, c ≠ b := by
  rintro c hc rfl
  have := (digB_iff c).1 (h c hc)
  omega
/-- A word ahead of a number: what Parse answers. -/
theorem parse_num (h : List UInt8) (c a : UInt8) (h' : List UInt8) (ha : h = a :: h') (ha35 : a ≠ 35) (hc : c = 78 ∨ c = 69) (hn : needsI (mkB h) = (⟨#[c]⟩, true)) (hh : ∀ x ∈ h, x ≠ 32) (hh10 : ∀ x ∈ h, x ≠ 10) (N : Nat) (hN : N ≤ 9223372036854775807) (hl : h.length ≤ 100) (s : ByteArray) (hs : s.data.toList = h ++ 32 :: Lib.decDigits N) :
    line_Parse.f s = some (if N ≤ 1099511627776 ∧ (c ≠ 69 ∨ N ≤ 1) then ([stepS (mkB h, [(N : Int)], ⟨#[]⟩, ⟨#[]⟩)], 0, true) else ([], 1, false)) := by
  obtain ⟨v1, v2, v3⟩ := dec_all N
  have hz : s.size ≤ 1000000 := by
    have e : s.data.toList.length = s.size := by rw [Array.length_toList]; rfl
    rw [hs, List.length_append, List.length_cons] at e
    have := dec_len N hN
    omega
  have h10 : ∀ x ∈ s.data.toList, x ≠ 10 := by
    intro x hx
    rw [hs] at hx
    rcases List.mem_append.1 hx with q | q
    · exact hh10 x q
    · rcases List.mem_cons.1 q with q | q
      · subst q; decide
      · exact dig_ne _ v2 10 (by decide) x q
  unfold line_Parse.f
  rw [if_pos hz, parse_line s h10 (skip_word (h' ++ 32 :: Lib.decDigits N) a ha35 s (by rw [hs, ha]; rfl)), step_num h c hc hn hh _ s hs, splitL_no 32 _ (dig_ne _ v2 32 (by decide))]
  obtain ⟨n1, n2⟩ := numL_dec N
  have em : (mkB (Lib.decDigits N)).data.toList = Lib.decDigits N := by simp [mkB]
  simp only [List.map_cons, List.map_nil, em]
  by_cases hq : N ≤ 1099511627776 ∧ (c ≠ 69 ∨ N ≤ 1)
  · have t2 : (numL (Lib.decDigits N)).2 = true := by rw [n1]; simp [hq.1]
    have e1 := n2 t2
    rw [if_pos ⟨t2, hq.2.imp id (fun q => by rw [e1]; omega)⟩, if_pos hq, e1]
  · rw [if_neg hq, if_neg (fun q => hq ⟨by have := q.1; rw [n1] at this; simpa using this, q.2.imp id (fun w => by rw [n2 q.1] at w; omega)⟩)]
theorem num_j (a0 : Int) (a1 : ByteArray) (N : Nat) (hN : N ≤ 9223372036854775807) : Ev (fun k => polliwoglaw23_LineNumbers.j1 k a1 (⟨(Lib.decDigits N).toArray⟩ : ByteArray) (N : Int) false) true := by
  have hdl := dec_len N hN
  obtain ⟨t, hc, ht⟩ : ∃ t, polliwoglaw02_Cut.f a1 3 = some t ∧ t.size ≤ 3 := by
    unfold polliwoglaw02_Cut.f
    by_cases h : (a1.size : Int) > 3
    · rw [if_pos h, if_pos (by omega), if_pos (by omega)]
      exact ⟨_, rfl, by rw [ByteArray.size_extract]; omega⟩
    · rw [if_neg h]
      exact ⟨a1, rfl, by omega⟩
  obtain ⟨S, hS⟩ : ∃ S : ByteArray, (⟨(Lib.decDigits N).toArray⟩ : ByteArray) = S := ⟨_, rfl⟩
  have hz : S.size = (Lib.decDigits N).length := by rw [← hS, size_mk]
  have hd : S.data.toList = Lib.decDigits N := by rw [← hS]
  rw [hS]
  have hp := parse_num lookL 69 108 [111, 111, 107] rfl (by decide) (.inr rfl) need_look (by decide) (by decide) N hN (by decide) ((⟨#[108, 111, 111, 107, 32]⟩ : ByteArray) ++ S) (by rw [ByteArray.data_append, Array.toList_append, hd]; rfl)
  have hz2 : (((⟨#[116, 105, 99, 107, 32]⟩ : ByteArray) ++ t) ++ S).size ≤ 1000000 := by
    rw [ByteArray.size_append, ByteArray.size_append]
    show 5 + t.size + S.size ≤ _
    omega
  have hp2 : line_Parse.f (((⟨#[116, 105, 99, 107, 32]⟩ : ByteArray) ++ t) ++ S) = some (parseGo (linesOf (((⟨#[116, 105, 99, 107, 32]⟩ : ByteArray) ++ t) ++ S)) 0 []) := by unfold line_Parse.f; rw [if_pos hz2]
  refine Ev.step (f := fun k => (polliwogref23_One.f k (((⟨#[116, 105, 99, 107, 32]⟩ : ByteArray) ++ t) ++ S)).bind fun _ => some true) (fun k => ?_) (Ev.bind (one_ev _ hz2) (Ev.now true))
  simp only [polliwoglaw23_LineNumbers.j1]
  rw [if_neg (by simp), if_pos (by omega), hp, Option.bind_some, hc, Option.bind_some, if_pos (by omega), if_pos (by rw [ByteArray.size_append]; show 5 + t.size + S.size ≤ _; omega), hp2, Option.bind_some]
  congr 1
  funext r
  by_cases h1 : N ≤ 1
  · rw [if_pos ⟨by omega, .inr h1⟩]
    simp; omega
  · rw [if_neg (fun q => by rcases q.2 with q | q; exact q rfl; exact h1 q)]
    simp; omega
theorem num_exit (a0 : Int) (a1 : ByteArray) (N : Nat) (h0 : mx a0 0 = (N : Int)) (hN : N ≤ 9223372036854775807) (i : Int) (hi : 0 < i) : Ev (fun k => polliwoglaw23_LineNumbers.l0 k a0 a1 (⟨(Lib.decDigits N).toArray⟩ : ByteArray) 0 i) true := by
  have hdl := dec_len N hN
  have hz : (⟨(Lib.decDigits N).toArray⟩ : ByteArray).size = (Lib.decDigits N).length := by rw [size_mk]
  have hp := parse_num tickL 78 116 [105, 99, 107] rfl (by decide) (.inl rfl) need_tick (by decide) (by decide) N hN (by decide) ((⟨#[116, 105, 99, 107, 32]⟩ : ByteArray) ++ (⟨(Lib.decDigits N).toArray⟩ : ByteArray)) (by rw [ByteArray.data_append, Array.toList_append]; rfl)
  refine Ev.step (fun k => ?_) (num_j a0 a1 N hN)
  simp only [polliwoglaw23_LineNumbers.l0]
  by_cases h1 : N ≤ 1099511627776
  · rw [if_pos ⟨h1, .inl (by decide)⟩] at hp
    have hd : decide ((N : Int) ≤ 1099511627776) = true := decide_eq_true (by omega)
    rw [if_neg (by omega), if_neg (by omega), if_pos (by omega), hp, Option.bind_some, h0, hd]
    show (if (true != true) = true then _ else if true = true then (if (0 : Int) < 1 then (if (0 : Int) < 1 then polliwoglaw23_LineNumbers.j1 k a1 (⟨(Lib.decDigits N).toArray⟩ : ByteArray) (N : Int) ((N : Int) != (N : Int)) else none) else none) else _) = _
    rw [if_neg (by simp), if_pos rfl, if_pos (by omega), if_pos (by omega)]
    congr 1
    simp
  · rw [if_neg (fun q => h1 q.1)] at hp
    have hd : decide ((N : Int) ≤ 1099511627776) = false := decide_eq_false (by omega)
    rw [if_neg (by omega), if_neg (by omega), if_pos (by omega), hp, Option.bind_some, h0, hd]
    show (if (false != false) = true then _ else if false = true then _ else polliwoglaw23_LineNumbers.j1 k a1 (⟨(Lib.decDigits N).toArray⟩ : ByteArray) (N : Int) false) = _
    rw [if_neg (by simp), if_neg (by simp)]
theorem num_loop (a0 : Int) (a1 : ByteArray) (N : Nat) (h0 : mx a0 0 = (N : Int)) (hN : N ≤ 9223372036854775807) (m : Nat) : ∀ (acc : List UInt8) (i : Int), (i = 0 ∨ 0 < m) → 0 ≤ i → i ≤ 1000 → m ≤ 9223372036854775807 → acc.length = i →
    i + (Lib.decDigits m).length ≤ 1000 → Lib.decDigits N = Lib.decDigits m ++ acc → Ev (fun k => polliwoglaw23_LineNumbers.l0 k a0 a1 (⟨acc.toArray⟩ : ByteArray) (m : Int) i) true := by
  induction m using Nat.strongRecOn with
  | ind m ih =>
    intro acc i hi hi0 hi1 hm ha hl he
    have e1 : (wrap64 (48 + Int.tmod (m : Int) 10)) % 256 = ((48 + m % 10 : Nat) : Int) := by
      rw [Int.tmod_eq_emod_of_nonneg (by omega)]
      unfold wrap64; omega
    have e2 : wrap64 (Int.tdiv (m : Int) 10) = ((m / 10 : Nat) : Int) := by
      rw [Int.tdiv_eq_ediv_of_nonneg (by omega)]
      unfold wrap64; omega
    have e3 : wrap64 (i + 1) = i + 1 := by unfold wrap64; omega
    refine Ev.step (f := fun k => polliwoglaw23_LineNumbers.l0 k a0 a1 (⟨(UInt8.ofNat (48 + m % 10) :: acc).toArray⟩ : ByteArray) ((m / 10 : Nat) : Int) (i + 1)) (fun k => ?_) ?_
    · simp only [polliwoglaw23_LineNumbers.l0]
      by_cases hz : i = 0
      · rw [if_pos hz, e1, e2, e3]
        simp only [Option.bind_some, size_mk, size_num, num_cons, Int.toNat_natCast]
        rw [if_pos (by omega)]
      · rw [if_neg hz, if_pos (by omega), e1, e2, e3]
        simp only [Option.bind_some, size_mk, size_num, num_cons, Int.toNat_natCast]
        rw [if_pos (by omega)]
    · by_cases h10 : m < 10
      · rw [dec_small m h10] at he
        have := num_exit a0 a1 N h0 hN (i + 1) (by omega)
        rw [he] at this
        rw [show m / 10 = 0 by omega, show m % 10 = m by omega]
        exact this
      · rw [dec_big m h10] at hl he
        simp only [List.length_append, List.length_cons, List.length_nil] at hl
        exact ih (m / 10) (by omega) (UInt8.ofNat (48 + m % 10) :: acc) (i + 1) (by omega) (by omega) (by omega) (by omega) (by simp; omega) (by omega) (by rw [he]; simp)
set_option maxRecDepth 100000 in
theorem awake_num : polliwoglaw23_awake.f = some true := by decide +kernel
theorem LineNumbers_pure (a0 : Int) (a1 : ByteArray) (hw : (Lit.int .i64 a0).wf = true) : ∃ k, polliwoglaw23_LineNumbers.f k a0 a1 = some true := by
  have hr : -9223372036854775808 ≤ a0 ∧ a0 ≤ 9223372036854775807 := (Lit.wf_int_iff _ _).1 hw
  obtain ⟨N, h0, hN⟩ : ∃ N : Nat, mx a0 0 = (N : Int) ∧ N ≤ 9223372036854775807 := by
    refine ⟨(mx a0 0).toNat, ?_, ?_⟩ <;> unfold mx <;> split <;> omega
  have hl := dec_len N hN
  refine Ev.rounds (g := fun k => polliwoglaw23_LineNumbers.f k a0 a1) ?_
  refine Ev.congr (fun k => ?_) (num_loop a0 a1 N h0 hN N [] 0 (.inl rfl) (by omega) (by omega) hN rfl (by omega) (by simp))
  unfold polliwoglaw23_LineNumbers.f
  rw [awake_num, Option.bind_some, if_pos rfl, h0]
theorem LineNumbers_walk (a0 : Int) (a1 : ByteArray) (w : World) (hw : (Lit.int .i64 a0).wf = true) (_ : a1.size ≤ 140737488351232) (hG : LTab w) :
    Calls Tryd.prog 11 #[.int .i64 a0, .string a1] w fun e w' => e = .returned (.bool true) ∧ Below w.heap.size w w' := by
  have hr : -9223372036854775808 ≤ a0 ∧ a0 ≤ 9223372036854775807 := (Lit.wf_int_iff _ _).1 hw
  obtain ⟨k, hk⟩ := LineNumbers_pure a0 a1 hw
  refine polliwoglaw23_LineNumbers.calls k a0 a1 true w (fun s m _ => 0 ≤ m ∧ m ≤ 9223372036854775807 ∧ ∀ x ∈ s.data.toList, digB x = true) ?_ ?_ ?_ rfl hG hk
  · refine ⟨?_, ?_, fun x hx => by cases hx⟩ <;> unfold mx <;> split <;> omega
  · rintro s m i ⟨h1, h2, h3⟩ -
    obtain ⟨n, rfl⟩ : ∃ n : Nat, m = (n : Int) := ⟨m.toNat, by omega⟩
    have e1 : (wrap64 (48 + Int.tmod (n : Int) 10)) % 256 = ((48 + n % 10 : Nat) : Int) := by
      rw [Int.tmod_eq_emod_of_nonneg (by omega)]
      unfold wrap64; omega
    have e2 : wrap64 (Int.tdiv (n : Int) 10) = ((n / 10 : Nat) : Int) := by
      rw [Int.tdiv_eq_ediv_of_nonneg (by omega)]
      unfold wrap64; omega
    rw [e1, e2]
    refine ⟨by omega, by omega, fun x hx => ?_⟩
    rw [ByteArray.data_append, Array.toList_append] at hx
    rcases List.mem_append.1 hx with q | q
    · have q2 : x = UInt8.ofNat (48 + (n : Int) % 10).toNat := by simpa [strOfNums] using q
      have q3 : (48 + (n : Int) % 10).toNat = 48 + n % 10 := by omega
      rw [q2, q3, digB_iff, dig_of _ (by omega)]
      omega
    · exact h3 x q
  · rintro s m i t x1 x2 b c1 c2 c3 c4 d kk ⟨h1, h2, h3⟩ hno hcut hp ho
    refine tick_same t s (fun x hx => ?_) (dig_ne _ h3 10 (by decide)) hp ho
    obtain ⟨j, hj, rfl⟩ := List.getElem_of_mem hx
    have e : t.data.toList.length = t.size := by rw [Array.length_toList]; rfl
    have := hno j (by omega)
    rwa [List.getD_eq_getElem?_getD, List.getElem?_eq_getElem hj] at this
end Go.Proofs.YthffifgjodikiaaDoor
