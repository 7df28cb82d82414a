/- A unit's words and bytes, and what the statements' helpers give. Plain: no walk. -/
import Derived.Test.YtddaecdhielkkaaPdup
import Derived.Test.YtddaecdhielkkaaF54
import Derived.Test.YtddaecdhielkkaaF55
namespace Go.Proofs.Ytddaecdhielkkaa
open Go.RowKit Pr Go.Proofs.YtddaecdhielkkaaW.PrintWords Go.Proofs.YtddaecdhielkkaaW.PrintMore
set_option linter.unusedSimpArgs false
set_option linter.unusedVariables false

/-! The words. -/
def wordsL (a0 a1 a3 a4 : Int) (l5 : List Int) : List Int := (if sqB a0 = true then [a1 % 4294967296] else []) ++ l5 ++ (if psB a0 = true then [a3] else []) ++ (if mrB a0 = true then [a4] else [])
theorem words_l0 (x131000 x131001 x131002 x131003 x131004 : Int) (l : List Int) (x131006 : Bool) (x131007 : ByteArray) (y0 : Int) (y1 y2 : Bool) (y3 : Int) (y4 y5 y6 y7 : Bool) (hl : l.length ≤ 1000) :
    ∀ (d k i : Nat) (acc : List Int), i + d = l.length → d + 2 < k → acc.length ≤ 1 + i →
      pdu_PDU_words.l0 k acc l (l.length : Int) (i : Int) x131000 x131001 x131002 x131003 x131004 l x131006 x131007 y0 y1 y2 y3 y4 y5 y6 y7 = some (acc ++ l.drop i ++ (if y4 = true then [x131003] else []) ++ (if y5 = true then [x131004] else []))
  | 0, k, i, acc, h, hk, ha => by
    obtain ⟨k, rfl⟩ : ∃ m, k = m + 2 := ⟨k - 2, by omega⟩
    simp only [pdu_PDU_words.l0]
    rw [if_neg (by omega), List.drop_of_length_le (by omega), List.append_nil]
    cases y4
    · simp only [Bool.false_eq_true, if_false, pdu_PDU_words.j2]
      cases y5
      · simp
      · simp only [if_true]
        rw [if_pos (by omega)]
        simp
    · simp only [if_true]
      rw [if_pos (by omega)]
      simp only [pdu_PDU_words.j2]
      cases y5
      · simp
      · simp only [if_true]
        rw [if_pos (by rw [List.length_append]; simp; omega)]
  | d + 1, k, i, acc, h, hk, ha => by
    obtain ⟨k, rfl⟩ : ∃ m, k = m + 1 := ⟨k - 1, by omega⟩
    have hi : i < l.length := by omega
    simp only [pdu_PDU_words.l0]
    rw [if_pos (by omega), if_pos (by omega), if_pos (by omega), if_pos (by omega), rd_at l i hi, wrap_next i (by omega),
      words_l0 x131000 x131001 x131002 x131003 x131004 l x131006 x131007 y0 y1 y2 y3 y4 y5 y6 y7 hl d k (i + 1) (acc ++ [l[i]]) (by omega) (by omega) (by rw [List.length_append]; simp; omega), List.drop_eq_getElem_cons hi]
    simp
theorem words_f (k : Nat) (a0 a1 a2 a3 a4 : Int) (l5 : List Int) (a6 : Bool) (a7 : ByteArray) (h : 1 ≤ a0 ∧ a0 ≤ 15) (hl : l5.length ≤ 1000) (hk : 2000 ≤ k) : pdu_PDU_words.f k a0 a1 a2 a3 a4 l5 a6 a7 = some (wordsL a0 a1 a3 a4 l5) := by
  obtain ⟨k, rfl⟩ : ∃ m, k = m + 4 := ⟨k - 4, by omega⟩
  unfold pdu_PDU_words.f wordsL
  rw [shape_in k a0 h]
  simp only [Option.bind_some]
  have e := fun acc ha => words_l0 a0 a1 a2 a3 a4 l5 a6 a7 (mostI a0) (sqB a0) (nB a0) (lsI a0) (psB a0) (mrB a0) (sfB a0) true hl l5.length (k + 3) 0 acc (by omega) (by omega) ha
  cases hs : sqB a0
  · rw [hs] at e
    simp only [Bool.false_eq_true, if_false, pdu_PDU_words.j0]
    have := e [] (by simp)
    simpa using this
  · rw [hs] at e
    simp only [if_true, pdu_PDU_words.j0]
    rw [if_pos (by simp)]
    have := e [a1 % 4294967296] (by simp)
    simpa using this
theorem wordsL_len (a0 a1 a3 a4 : Int) (l5 : List Int) : (wordsL a0 a1 a3 a4 l5).length ≤ l5.length + 3 := by
  unfold wordsL
  simp only [List.length_append]
  have : ∀ (b : Bool) (x : Int), (if b = true then [x] else []).length ≤ 1 := by intro b x; cases b <;> simp
  have h1 := this (sqB a0) (a1 % 4294967296)
  have h2 := this (psB a0) a3
  have h3 := this (mrB a0) a4
  omega
def bytesP (a0 a1 a2 a3 a4 : Int) (l5 : List Int) (a6 : Bool) (a7 : ByteArray) : List UInt8 := bytesL a0 a2 a6 a7.data.toList (wordsL a0 a1 a3 a4 l5)
theorem chk_kind {a0 a1 a2 a3 a4 : Int} {l5 : List Int} {a6 : Bool} {a7 : ByteArray} (h : chkP a0 a1 a2 a3 a4 l5 a6 a7 = 0) : 1 ≤ a0 ∧ a0 ≤ 15 := by
  by_cases hk : 1 ≤ a0 ∧ a0 ≤ 15
  · exact hk
  · unfold chkP at h
    rw [if_neg hk] at h
    exact absurd h (by decide)
theorem bytes_f (k : Nat) (a0 a1 a2 a3 a4 : Int) (l5 : List Int) (a6 : Bool) (a7 : ByteArray) (hl : l5.length ≤ 1000) (hd : a7.size ≤ 1000) (hk : 2000 ≤ k) :
    pdu_PDU_Bytes.f k a0 a1 a2 a3 a4 l5 a6 a7 = some (if chkP a0 a1 a2 a3 a4 l5 a6 a7 = 0 then ⟨(bytesP a0 a1 a2 a3 a4 l5 a6 a7).toArray⟩ else ⟨#[]⟩) := by
  obtain ⟨k, rfl⟩ : ∃ m, k = m + 4 := ⟨k - 4, by omega⟩
  unfold pdu_PDU_Bytes.f
  rw [check_f]
  simp only [Option.bind_some]
  by_cases h : chkP a0 a1 a2 a3 a4 l5 a6 a7 = 0
  · have hk := chk_kind h
    rw [words_f (k + 4) a0 a1 a2 a3 a4 l5 a6 a7 hk hl (by omega), h]
    have := wordsL_len a0 a1 a3 a4 l5
    simp only [Option.bind_some]
    rw [if_neg (by simp), if_pos (by omega), if_pos trivial]
    rfl
  · rw [if_pos (by simpa using h), if_neg h]

/-! The statements' helpers. -/
def clI (x : Int) : Int := mx 0 (mn x 4294967295)
theorem clI_bd (x : Int) : 0 ≤ clI x ∧ clI x < 4294967296 := by unfold clI mx mn; omega
theorem clI_id (x : Int) (h0 : 0 ≤ x) (h1 : x < 4294967296) : clI x = x := by unfold clI mx mn; omega
def cutB (s : ByteArray) (n : Nat) : ByteArray := s.extract 0 (min s.size n)
theorem cut_f (s : ByteArray) (n : Nat) : polliwoglaw02_Cut.f s (n : Int) = some (cutB s n) := by
  unfold polliwoglaw02_Cut.f cutB
  split
  · rw [if_pos (by omega), if_pos (by omega)]
    rw [Nat.min_eq_right (by omega)]
    rfl
  · rw [Nat.min_eq_left (by omega)]
    simp
theorem cutB_size (s : ByteArray) (n : Nat) : (cutB s n).size ≤ n := by
  unfold cutB
  rw [ByteArray.size_extract]
  omega
theorem few_l0 (x0 x1 x2 x3 x4 : Int) (l : List Int) (x6 : Bool) (x7 : ByteArray) : ∀ (d k i : Nat) (acc : List Int), i + d = min l.length 140 → d < k → acc.length ≤ i →
      polliwoglaw06_Few.l0 k acc (i : Int) x0 x1 x2 x3 x4 l x6 x7 = some (x0, x1, x2, x3, x4, acc ++ ((l.take 140).drop i).map clI, x6, x7)
  | 0, k, i, acc, h, hk, ha => by
    obtain ⟨k, rfl⟩ : ∃ m, k = m + 1 := ⟨k - 1, by omega⟩
    have e : (l.take 140).drop i = [] := List.drop_of_length_le (by rw [List.length_take]; omega)
    simp only [polliwoglaw06_Few.l0]
    rw [e]
    simp only [List.map_nil, List.append_nil]
    by_cases h1 : (i : Int) < (l.length : Int)
    · rw [if_pos h1, if_neg (by omega)]
    · rw [if_neg h1]
  | d + 1, k, i, acc, h, hk, ha => by
    obtain ⟨k, rfl⟩ : ∃ m, k = m + 1 := ⟨k - 1, by omega⟩
    have hi : i < l.length := by omega
    have hi2 : i < (l.take 140).length := by rw [List.length_take]; omega
    simp only [polliwoglaw06_Few.l0]
    rw [if_pos (by omega), if_pos (by omega), if_pos (by omega), rd_at l i hi, wrap_next i (by omega)]
    unfold polliwoglaw06_Few_1.f
    simp only [Option.bind_some]
    rw [if_pos (by omega), few_l0 x0 x1 x2 x3 x4 l x6 x7 d k (i + 1) _ (by omega) (by omega) (by rw [List.length_append]; simp; omega), List.drop_eq_getElem_cons hi2, List.getElem_take]
    simp [clI]
def fewL (l : List Int) : List Int := (l.take 140).map clI
theorem fewL_len (l : List Int) : (fewL l).length ≤ 140 := by unfold fewL; rw [List.length_map, List.length_take]; omega
theorem few_f (k : Nat) (a0 a1 a2 a3 a4 : Int) (l5 : List Int) (a6 : Bool) (a7 : ByteArray) (hk : 2000 ≤ k) : polliwoglaw06_Few.f k a0 a1 a2 a3 a4 l5 a6 a7 = some (a0, a1, clI a2, clI a3, clI a4, fewL l5, a6, cutB a7 210) := by
  unfold polliwoglaw06_Few.f polliwoglaw06_Few_1.f
  have hc := cut_f a7 210
  simp only [Option.bind_some]
  rw [show ((210 : Nat) : Int) = 210 from rfl] at hc
  rw [hc]
  simp only [Option.bind_some]
  have := few_l0 a0 a1 (clI a2) (clI a3) (clI a4) l5 a6 (cutB a7 210) (min l5.length 140) k 0 [] (by omega) (by omega) (by simp)
  rw [List.drop_zero, List.nil_append] at this
  exact this
theorem num_few (a2 a3 a4 : Int) (l5 : List Int) : Num32 (clI a2) (clI a3) (clI a4) (fewL l5) := by
  refine ⟨(clI_bd _).1, (clI_bd _).2, (clI_bd _).1, (clI_bd _).2, (clI_bd _).1, (clI_bd _).2, fun x hx => ?_, fewL_len _⟩
  unfold fewL at hx
  obtain ⟨y, _, rfl⟩ := List.mem_map.1 hx
  exact clI_bd y
theorem own_l0 (x0 x1 x2 x3 x4 : Int) (l : List Int) (x6 : Bool) (x7 : ByteArray) (hl : l.length ≤ 1000) (hb : ∀ x ∈ l, 0 ≤ x ∧ x < 4294967296) : ∀ (d k i : Nat) (acc : List Int), i + d = l.length → d < k → acc.length ≤ i →
      polliwoglaw06_Own.l0 k l (l.length : Int) (i : Int) x0 x1 x2 x3 x4 acc x6 x7 = some (x0, x1, x2, x3, x4, acc ++ l.drop i, x6, x7)
  | 0, k, i, acc, h, hk, ha => by
    obtain ⟨k, rfl⟩ : ∃ m, k = m + 1 := ⟨k - 1, by omega⟩
    simp only [polliwoglaw06_Own.l0]
    rw [if_neg (by omega), List.drop_of_length_le (by omega), List.append_nil]
  | d + 1, k, i, acc, h, hk, ha => by
    obtain ⟨k, rfl⟩ : ∃ m, k = m + 1 := ⟨k - 1, by omega⟩
    have hi : i < l.length := by omega
    have hx := hb l[i] (List.getElem_mem hi)
    have hc := clI_id l[i] hx.1 hx.2
    unfold clI at hc
    simp only [polliwoglaw06_Own.l0]
    rw [if_pos (by omega), if_pos (by omega), if_pos (by omega), rd_at l i hi, wrap_next i (by omega)]
    unfold polliwoglaw06_num.f
    simp only [Option.bind_some]
    rw [hc, if_pos (by omega), own_l0 x0 x1 x2 x3 x4 l x6 x7 hl hb d k (i + 1) _ (by omega) (by omega) (by rw [List.length_append]; simp; omega), List.drop_eq_getElem_cons hi]
    simp
theorem own_f (k : Nat) (a0 a1 a2 a3 a4 : Int) (l5 : List Int) (a6 : Bool) (a7 : ByteArray) (hn : Num32 a2 a3 a4 l5) (hk : 2000 ≤ k) : polliwoglaw06_Own.f k a0 a1 a2 a3 a4 l5 a6 a7 = some (a0, a1, a2, a3, a4, l5, a6, a7) := by
  unfold polliwoglaw06_Own.f polliwoglaw06_num.f
  have c2 := clI_id a2 hn.n0 hn.n1
  have c3 := clI_id a3 hn.p0 hn.p1
  have c4 := clI_id a4 hn.m0 hn.m1
  unfold clI at c2 c3 c4
  simp only [Option.bind_some]
  rw [c2, c3, c4]
  have := own_l0 a0 a1 a2 a3 a4 l5 a6 a7 (by have := hn.len; omega) hn.l l5.length k 0 [] (by omega) (by have := hn.len; omega) (by simp)
  simpa using this

/-! What a unit that may be is. -/
theorem arg_false {b1 b2 b3 r2 : Bool} {a1 : Int} (h : okArg b1 b2 b3 r2 a1 = false) : b1 = true ∧ b2 = true ∧ b3 = true ∧ 0 ≤ a1 ∧ a1 ≤ 255 ∧ (r2 = false → a1 = 0) := by
  unfold okArg at h
  simp only [Bool.or_eq_false_iff, Bool.not_eq_eq_eq_not, Bool.not_false, decide_eq_false_iff_not, Bool.and_eq_false_imp, bne_eq_false_iff_eq, Bool.not_true] at h
  obtain ⟨⟨⟨⟨⟨h1, h2⟩, h3⟩, h4⟩, h5⟩, h6⟩ := h
  exact ⟨h1, h2, h3, by omega, by omega, h6⟩
/-- A unit that may be, by its parts. -/
structure May (a0 a1 a2 a3 a4 : Int) (l5 : List Int) (a6 : Bool) (a7 : ByteArray) : Prop where
  kind : 1 ≤ a0 ∧ a0 ≤ 15
  s0 : 0 ≤ a1
  s1 : a1 ≤ 255
  sq : sqB a0 = false → a1 = 0
  n0 : 0 ≤ a2
  n1 : a2 < 16777216
  n : nB a0 = false → a2 = 0
  ps : psB a0 = false → a3 = 0
  mr : mrB a0 = false → a4 = 0
  p0 : 0 ≤ a3
  p1 : a3 < 16777216
  m0 : 0 ≤ a4
  m1 : a4 < 16777216
  l : ∀ x ∈ l5, 0 ≤ x ∧ x < 16777216
  len : l5.length ≤ 128
  ls : (lsI a0 < 0 ∧ l5.length % 2 = 0) ∨ (l5.length : Int) = lsI a0
  self : sfB a0 = false → a6 = false
  data : mostI a0 = 0 → a7.size = 0
  dlen : a7.size ≤ 200
theorem low24_iff {x : Int} (h : low24 x = true) : 0 ≤ x ∧ x < 16777216 := by unfold low24 at h; simpa using h
theorem may_of {a0 a1 a2 a3 a4 : Int} {l5 : List Int} {a6 : Bool} {a7 : ByteArray} (hn : Num32 a2 a3 a4 l5) (h : chkP a0 a1 a2 a3 a4 l5 a6 a7 = 0) : May a0 a1 a2 a3 a4 l5 a6 a7 := by
  have hk := chk_kind h
  unfold chkP at h
  rw [if_pos hk] at h
  unfold chkI at h
  rw [if_neg (by simp)] at h
  have hb : okBig l5.length (mostI a0) a7.size = false := by
    cases hq : okBig l5.length (mostI a0) a7.size
    · rfl
    · rw [hq, if_pos rfl] at h
      exact absurd h (by decide)
  rw [hb, if_neg (by simp)] at h
  have ha : okArg (okList l5.length (lsI a0)) (okAll a2 a3 a4 l5) (okSome (mostI a0) (nB a0) (psB a0) (mrB a0) (sfB a0) a2 a3 a4 a6 a7) (sqB a0) a1 = false := by
    cases hq : okArg (okList l5.length (lsI a0)) (okAll a2 a3 a4 l5) (okSome (mostI a0) (nB a0) (psB a0) (mrB a0) (sfB a0) a2 a3 a4 a6 a7) (sqB a0) a1
    · rfl
    · rw [hq, if_pos rfl] at h
      exact absurd h (by decide)
  obtain ⟨h1, h2, h3, h4, h5, h6⟩ := arg_false ha
  unfold okAll at h2
  rw [lowB_24 a2 hn.n0 hn.n1, lowB_24 a3 hn.p0 hn.p1, lowB_24 a4 hn.m0 hn.m1, all_low l5 hn.l] at h2
  simp only [Bool.and_eq_true] at h2
  obtain ⟨⟨⟨e2, e3⟩, e4⟩, e5⟩ := h2
  have hl : ∀ x ∈ l5, 0 ≤ x ∧ x < 16777216 := fun x hx => low24_iff (List.all_eq_true.1 e5 x hx)
  unfold okSome at h3
  simp only [Bool.and_eq_true, Bool.or_eq_true, beq_iff_eq, decide_eq_true_eq, Bool.not_eq_true'] at h3
  obtain ⟨⟨⟨⟨g1, g2⟩, g3⟩, g4⟩, g5⟩ := h3
  unfold okBig at hb
  simp only [Bool.or_eq_false_iff, Bool.and_eq_false_imp, decide_eq_true_eq, decide_eq_false_iff_not] at hb
  have hsz : a7.toList.isEmpty = true → a7.size = 0 := by
    intro he
    rw [ByteArray.toList_eq, List.isEmpty_iff] at he
    have : a7.data.toList.length = 0 := by rw [he]; rfl
    rw [Array.length_toList] at this
    exact this
  have hm : mostI a0 = 64 ∨ mostI a0 = 200 ∨ mostI a0 = 0 := by
    unfold mostI
    repeat' split
    all_goals simp
  refine ⟨hk, h4, h5, h6, (low24_iff e2).1, (low24_iff e2).2, fun q => ?_, fun q => ?_, fun q => ?_, (low24_iff e3).1, (low24_iff e3).2, (low24_iff e4).1, (low24_iff e4).2, hl, by omega, ?_, fun q => ?_, fun q => ?_, ?_⟩
  · rcases g2 with g | g
    · rw [q] at g; simp at g
    · exact g
  · rcases g3 with g | g
    · rw [q] at g; simp at g
    · exact g
  · rcases g4 with g | g
    · rw [q] at g; simp at g
    · exact g
  · unfold okList at h1
    simp only [Bool.or_eq_true, Bool.and_eq_true, decide_eq_true_eq, beq_iff_eq] at h1
    rcases h1 with h1 | ⟨h1, h1'⟩
    · exact .inr h1
    · exact .inl ⟨h1, by omega⟩
  · rcases g5 with g | g
    · rw [q] at g; simp at g
    · exact g
  · rcases g1 with g | g
    · omega
    · exact hsz g
  · rcases g1 with g | g
    · have := hb.1
      by_cases q : mostI a0 < (a7.size : Int)
      · exact absurd g (this q)
      · rcases hm with hm | hm | hm <;> omega
    · have := hsz g
      omega
end Go.Proofs.Ytddaecdhielkkaa
