/- A unit's bytes: read back word by word; unlike units have unlike bytes. Plain: no walk. -/
import Derived.Test.YtjbnihaekgmhlaaDoorBytw
import Derived.Test.YtjbnihaekgmhlaaDoorF55
import Derived.Laws.BitsLemmas
import Derived.Test.YtjbnihaekgmhlaaDoorRchk
import Derived.Test.YtjbnihaekgmhlaaDoorF17
import Derived.Test.YtjbnihaekgmhlaaDoorF16
import Derived.Test.YtjbnihaekgmhlaaDoorF57
import Derived.Test.YtjbnihaekgmhlaaDoorF58
import Derived.Test.YtjbnihaekgmhlaaDoorF39
namespace Go.Proofs.YtjbnihaekgmhlaaDoor
open Go.RowKit Pr Go.Proofs.YtjbnihaekgmhlaaDoorW.PrintWords Go.Proofs.YtjbnihaekgmhlaaDoorW.PrintMore
set_option linter.unusedSimpArgs false
set_option linter.unusedVariables false

theorem bt_at (s : ByteArray) (n : Nat) (h : n < s.size) : bt s (n : Int) = ((s[n]'h).toNat : Int) := by simp [bt, h]
theorem size_mk' (l : List UInt8) : (⟨l.toArray⟩ : ByteArray).size = l.length := by simp [ByteArray.size]
theorem join32 (i : Nat) (x y : Int) (h0 : 0 ≤ x) (hx : x % 2 ^ i = 0) (h1 : x < 4294967296) (y0 : 0 ≤ y) (hy : y < 2 ^ i) (y1 : y < 4294967296) : Go.bits .or .u32 x y = x + y :=
  bits_join .u32 32 (by decide) (fun n h0 h1 => by
    show n % 4294967296 = n
    omega) i x y h0 hx h1 y0 hy y1
theorem four_back (a b c d : Nat) (ha : a < 256) (hb : b < 256) (hc : c < 256) (hd : d < 256) :
    Go.bits .or .u32 (Go.bits .or .u32 (Go.bits .or .u32 ((((a : Int) % 4294967296) * 16777216) % 4294967296) ((((b : Int) % 4294967296) * 65536) % 4294967296)) ((((c : Int) % 4294967296) * 256) % 4294967296)) ((d : Int) % 4294967296) = (a : Int) * 16777216 + (b : Int) * 65536 + (c : Int) * 256 + (d : Int) := by
  rw [show ((((a : Int) % 4294967296) * 16777216) % 4294967296) = (a : Int) * 16777216 by omega, show ((((b : Int) % 4294967296) * 65536) % 4294967296) = (b : Int) * 65536 by omega, show ((((c : Int) % 4294967296) * 256) % 4294967296) = (c : Int) * 256 by omega, show ((d : Int) % 4294967296) = (d : Int) by omega]
  rw [join32 24 ((a : Int) * 16777216) ((b : Int) * 65536) (by omega) (by omega) (by omega) (by omega) (by omega) (by omega)]
  rw [join32 16 ((a : Int) * 16777216 + (b : Int) * 65536) ((c : Int) * 256) (by omega) (by omega) (by omega) (by omega) (by omega) (by omega)]
  rw [join32 8 ((a : Int) * 16777216 + (b : Int) * 65536 + (c : Int) * 256) (d : Int) (by omega) (by omega) (by omega) (by omega) (by omega) (by omega)]
theorem at_four (l : List UInt8) (x : Int) (h0 : 0 ≤ x) (h1 : x < 4294967296) (hl : l.length ≤ 1000000000) : pdu_at.f ⟨(l ++ fourL x).toArray⟩ (l.length : Int) = some x := by
  have hz : (⟨(l ++ fourL x).toArray⟩ : ByteArray).size = l.length + 4 := by rw [size_mk', List.length_append]; rfl
  have e1 : wrap64 ((l.length : Int) + 1) = ((l.length + 1 : Nat) : Int) := by unfold wrap64; omega
  have e2 : wrap64 ((l.length : Int) + 2) = ((l.length + 2 : Nat) : Int) := by unfold wrap64; omega
  have e3 : wrap64 ((l.length : Int) + 3) = ((l.length + 3 : Nat) : Int) := by unfold wrap64; omega
  have g : ∀ j (hj : j < 4), bt (⟨(l ++ fourL x).toArray⟩ : ByteArray) ((l.length + j : Nat) : Int) = (((fourL x)[j]'hj).toNat : Int) := by
    intro j hj
    rw [bt_at _ _ (by omega)]
    congr 2
    show (l ++ fourL x)[l.length + j]'_ = _
    rw [List.getElem_append_right (by omega)]
    congr 1
    omega
  have g0 := g 0 (by omega)
  rw [Nat.add_zero] at g0
  unfold pdu_at.f
  rw [hz, e1, e2, e3, g0, g 1 (by omega), g 2 (by omega), g 3 (by omega)]
  rw [if_pos (by omega), if_pos (by omega), if_pos (by omega), if_pos (by omega), if_pos (by omega), if_pos (by omega), if_pos (by omega), if_pos (by omega)]
  have q0 : 0 < (fourL x).length := (by decide : 0 < 4)
  have q1 : 1 < (fourL x).length := (by decide : 1 < 4)
  have q2 : 2 < (fourL x).length := (by decide : 2 < 4)
  have q3 : 3 < (fourL x).length := (by decide : 3 < 4)
  have fb := four_back ((fourL x)[0]'q0).toNat ((fourL x)[1]'q1).toNat ((fourL x)[2]'q2).toNat ((fourL x)[3]'q3).toNat (UInt8.toNat_lt _) (UInt8.toNat_lt _) (UInt8.toNat_lt _) (UInt8.toNat_lt _)
  refine (congrArg some fb).trans ?_
  simp only [fourL, List.getElem_cons_zero, List.getElem_cons_succ, UInt8.toNat_ofNat']
  congr 1
  omega
theorem take_four (l : List UInt8) (x : Int) (h0 : 0 ≤ x) (h1 : x < 4294967296) (hl : l.length ≤ 1000000000) : pdu_tail_take.f ⟨(l ++ fourL x).toArray⟩ = some (x, ⟨l.toArray⟩) := by
  have hz : (⟨(l ++ fourL x).toArray⟩ : ByteArray).size = l.length + 4 := by rw [size_mk', List.length_append]; rfl
  have e1 : wrap64 (((l.length + 4 : Nat) : Int) - 4) = (l.length : Int) := by unfold wrap64; omega
  unfold pdu_tail_take.f
  rw [hz, e1, at_four l x h0 h1 hl]
  simp only [Option.bind_some]
  rw [if_pos (by omega), if_pos (by omega)]
  congr 2
  have : (⟨(l ++ fourL x).toArray⟩ : ByteArray).extract 0 l.length = ⟨l.toArray⟩ := by
    apply ByteArray.ext
    rw [ByteArray.data_extract]
    simp
  simpa using this

/-! The last word. -/
theorem lastW_sum (kind n : Int) (self : Bool) (pad : Nat) (hk : 0 ≤ kind) (hk1 : kind < 16) (hn : 0 ≤ n) (hn1 : n < 16777216) (hp : pad < 4) : lastW kind n self pad = (pad : Int) * 1073741824 + bitI self * 536870912 + kind * 16777216 + n := by
  have hb : bitI self = 0 ∨ bitI self = 1 := by cases self <;> simp [bitI]
  unfold lastW
  show Go.bits .or .u32 (Go.bits .or .u32 (Go.bits .or .u32 (((pad : Int) % 4294967296 * 1073741824) % 4294967296) ((bitI self * 536870912) % 4294967296)) ((kind % 4294967296 * 16777216) % 4294967296)) n = _
  rw [show (((pad : Int) % 4294967296 * 1073741824) % 4294967296) = (pad : Int) * 1073741824 by omega, show ((bitI self * 536870912) % 4294967296) = bitI self * 536870912 by omega, show ((kind % 4294967296 * 16777216) % 4294967296) = kind * 16777216 by omega]
  rw [join32 30 ((pad : Int) * 1073741824) (bitI self * 536870912) (by omega) (by omega) (by omega) (by omega) (by omega) (by omega)]
  rw [join32 29 ((pad : Int) * 1073741824 + bitI self * 536870912) (kind * 16777216) (by omega) (by omega) (by omega) (by omega) (by omega) (by omega)]
  rw [join32 24 ((pad : Int) * 1073741824 + bitI self * 536870912 + kind * 16777216) n (by omega) (by omega) (by omega) (by omega) (by omega) (by omega)]
theorem and32 (i : Nat) (hi : i ≤ 32) (x : Int) (h0 : 0 ≤ x) (h1 : x < 4294967296) : Go.bits .and .u32 x (2 ^ i - 1) = x % 2 ^ i :=
  bits_mask .u32 32 (by decide) (fun n h0 h1 => by
    show n % 4294967296 = n
    omega) i hi x h0 h1
theorem last_bounds (kind n : Int) (self : Bool) (pad : Nat) (hk : 0 ≤ kind) (hk1 : kind < 16) (hn : 0 ≤ n) (hn1 : n < 16777216) (hp : pad < 4) : 0 ≤ lastW kind n self pad ∧ lastW kind n self pad < 4294967296 := by
  have hb : bitI self = 0 ∨ bitI self = 1 := by cases self <;> simp [bitI]
  rw [lastW_sum kind n self pad hk hk1 hn hn1 hp]
  omega
theorem last_kind (kind n : Int) (self : Bool) (pad : Nat) (hk : 0 ≤ kind) (hk1 : kind < 16) (hn : 0 ≤ n) (hn1 : n < 16777216) (hp : pad < 4) : Go.bits .and .u32 (lastW kind n self pad / 16777216) 15 = kind := by
  have hb : bitI self = 0 ∨ bitI self = 1 := by cases self <;> simp [bitI]
  have := and32 4 (by decide) (lastW kind n self pad / 16777216) (by have := last_bounds kind n self pad hk hk1 hn hn1 hp; omega) (by have := last_bounds kind n self pad hk hk1 hn hn1 hp; omega)
  rw [show ((2 : Int) ^ 4 - 1) = 15 by decide] at this
  rw [this, lastW_sum kind n self pad hk hk1 hn hn1 hp]
  omega
theorem last_n (kind n : Int) (self : Bool) (pad : Nat) (hk : 0 ≤ kind) (hk1 : kind < 16) (hn : 0 ≤ n) (hn1 : n < 16777216) (hp : pad < 4) : Go.bits .and .u32 (lastW kind n self pad) 16777215 = n := by
  have hb : bitI self = 0 ∨ bitI self = 1 := by cases self <;> simp [bitI]
  have hlb := last_bounds kind n self pad hk hk1 hn hn1 hp
  have := and32 24 (by decide) (lastW kind n self pad) hlb.1 hlb.2
  rw [show ((2 : Int) ^ 24 - 1) = 16777215 by decide] at this
  rw [this, lastW_sum kind n self pad hk hk1 hn hn1 hp]
  omega
theorem last_self (kind n : Int) (self : Bool) (pad : Nat) (hk : 0 ≤ kind) (hk1 : kind < 16) (hn : 0 ≤ n) (hn1 : n < 16777216) (hp : pad < 4) : Go.bits .and .u32 (lastW kind n self pad / 536870912) 1 = bitI self := by
  have hb : bitI self = 0 ∨ bitI self = 1 := by cases self <;> simp [bitI]
  have hlb := last_bounds kind n self pad hk hk1 hn hn1 hp
  have := and32 1 (by decide) (lastW kind n self pad / 536870912) (by omega) (by omega)
  rw [show ((2 : Int) ^ 1 - 1) = 1 by decide] at this
  rw [this, lastW_sum kind n self pad hk hk1 hn hn1 hp]
  omega
theorem last_pad (kind n : Int) (self : Bool) (pad : Nat) (hk : 0 ≤ kind) (hk1 : kind < 16) (hn : 0 ≤ n) (hn1 : n < 16777216) (hp : pad < 4) : lastW kind n self pad / 1073741824 = (pad : Int) := by
  have hb : bitI self = 0 ∨ bitI self = 1 := by cases self <;> simp [bitI]
  rw [lastW_sum kind n self pad hk hk1 hn hn1 hp]
  omega
end Go.Proofs.YtjbnihaekgmhlaaDoor
namespace Go.Proofs.YtjbnihaekgmhlaaDoor
open Go.RowKit Pr Go.Proofs.YtjbnihaekgmhlaaDoorW.PrintWords Go.Proofs.YtjbnihaekgmhlaaDoorW.PrintMore
set_option linter.unusedSimpArgs false
set_option linter.unusedVariables false

/-! A kind's shape. -/
def lsI (k : Int) : Int := if k = 11 then -1 else if k = 12 then 2 else 0
def sfB (k : Int) : Bool := decide (k = 3)
theorem kinds15 {k : Int} (h : 1 ≤ k ∧ k ≤ 15) : k = 1 ∨ k = 2 ∨ k = 3 ∨ k = 4 ∨ k = 5 ∨ k = 6 ∨ k = 7 ∨ k = 8 ∨ k = 9 ∨ k = 10 ∨ k = 11 ∨ k = 12 ∨ k = 13 ∨ k = 14 ∨ k = 15 := by omega
theorem shape_in (k : Nat) (a : Int) (h : 1 ≤ a ∧ a ≤ 15) : pdu_shapeOf.f (k + 4) a = some (mostI a, sqB a, nB a, lsI a, psB a, mrB a, sfB a, true) := by
  rcases kinds15 h with rfl | rfl | rfl | rfl | rfl | rfl | rfl | rfl | rfl | rfl | rfl | rfl | rfl | rfl | rfl <;> rfl
theorem shape_out (k : Nat) (a : Int) (h : a < 1 ∨ 15 < a) : pdu_shapeOf.f (k + 4) a = some (0, false, false, 0, false, false, false, false) := by
  have h1 : ¬ a = 1 := by omega
  have h2 : ¬ a = 2 := by omega
  have h3 : ¬ a = 3 := by omega
  have h4 : ¬ a = 4 := by omega
  have h5 : ¬ a = 5 := by omega
  have h6 : ¬ a = 6 := by omega
  have h7 : ¬ a = 7 := by omega
  have h8 : ¬ a = 8 := by omega
  have h9 : ¬ a = 9 := by omega
  have h10 : ¬ a = 10 := by omega
  have h11 : ¬ a = 11 := by omega
  have h12 : ¬ a = 12 := by omega
  have h13 : ¬ a = 13 := by omega
  have h14 : ¬ a = 14 := by omega
  have h15 : ¬ a = 15 := by omega
  simp [pdu_shapeOf.f, pdu_shapeOf.j0, pdu_shapeOf.j1, pdu_shapeOf.j2, h1, h2, h3, h4, h5, h6, h7, h8, h9, h10, h11, h12, h13, h14, h15]

/-! May it be? -/
def chkP (a0 a1 a2 a3 a4 : Int) (l5 : List Int) (a6 : Bool) (a7 : ByteArray) : Int :=
  if 1 ≤ a0 ∧ a0 ≤ 15 then chkI (mostI a0) (sqB a0) (nB a0) (lsI a0) (psB a0) (mrB a0) (sfB a0) true a1 a2 a3 a4 l5 a6 a7 else 10
theorem check_f (k : Nat) (a0 a1 a2 a3 a4 : Int) (l5 : List Int) (a6 : Bool) (a7 : ByteArray) : pdu_PDU_Check.f (k + 4) a0 a1 a2 a3 a4 l5 a6 a7 = some (chkP a0 a1 a2 a3 a4 l5 a6 a7) := by
  unfold pdu_PDU_Check.f chkP
  by_cases h : 1 ≤ a0 ∧ a0 ≤ 15
  · rw [shape_in k a0 h, if_pos h]
    rfl
  · rw [shape_out k a0 (by omega), if_neg h]
    rfl
theorem lowB_24 (x : Int) (h0 : 0 ≤ x) (h1 : x < 4294967296) : lowB x = low24 x := by
  unfold lowB low24
  have := and32 24 (by decide) x h0 h1
  rw [show ((2 : Int) ^ 24 - 1) = 16777215 by decide] at this
  rw [this, Bool.eq_iff_iff]
  simp only [beq_iff_eq, decide_eq_true_eq]
  omega
theorem all_low (l : List Int) (h : ∀ x ∈ l, 0 ≤ x ∧ x < 4294967296) : l.all lowB = l.all low24 := by
  induction l with
  | nil => rfl
  | cons a l ih =>
    rw [List.all_cons, List.all_cons, ih (fun x hx => h x (List.mem_cons_of_mem _ hx)), lowB_24 a (h a List.mem_cons_self).1 (h a List.mem_cons_self).2]
/-- A unit's numbers are whole numbers of 32 bits. -/
structure Num32 (a2 a3 a4 : Int) (l5 : List Int) : Prop where
  n0 : 0 ≤ a2
  n1 : a2 < 4294967296
  p0 : 0 ≤ a3
  p1 : a3 < 4294967296
  m0 : 0 ≤ a4
  m1 : a4 < 4294967296
  l : ∀ x ∈ l5, 0 ≤ x ∧ x < 4294967296
  len : l5.length ≤ 140
theorem refCheck_f (k : Nat) (a0 a1 a2 a3 a4 : Int) (l5 : List Int) (a6 : Bool) (a7 : ByteArray) (hn : Num32 a2 a3 a4 l5) (hk : 2000 ≤ k) : polliwogref06_Check.f k a0 a1 a2 a3 a4 l5 a6 a7 = some (chkP a0 a1 a2 a3 a4 l5 a6 a7) := by
  unfold polliwogref06_Check.f
  rw [if_pos (by have := hn.len; omega)]
  congr 1
  unfold refI chkP
  by_cases h : 1 ≤ a0 ∧ a0 ≤ 15
  · rw [if_neg (by omega), if_pos h]
    unfold chkI okAll
    rw [lowB_24 a2 hn.n0 hn.n1, lowB_24 a3 hn.p0 hn.p1, lowB_24 a4 hn.m0 hn.m1, all_low l5 hn.l]
    have eb : okBig l5.length (mostI a0) a7.size = refB1 a0 l5 a7 := by
      unfold okBig refB1
      cases decide (0 < mostI a0) <;> cases decide (mostI a0 < (a7.size : Int)) <;> rfl
    have ea : okArg (okList l5.length (lsI a0)) (low24 a2 && low24 a3 && low24 a4 && l5.all low24) (okSome (mostI a0) (nB a0) (psB a0) (mrB a0) (sfB a0) a2 a3 a4 a6 a7) (sqB a0) a1 = (refB2 a0 a1 a2 a3 a4 a7 || refB3 a0 a1 a2 a6 || refB4 a0 a3 a4 || refB5 a0 l5 || !l5.all low24) := by
      have hem : a7.toList.isEmpty = decide (a7.toList = []) := by cases a7.toList <;> rfl
      unfold okArg okSome refB2 refB3 refB4 refB5 okList
      rw [hem]
      generalize low24 a2 = b2
      generalize low24 a3 = b3
      generalize low24 a4 = b4
      generalize l5.all low24 = b5
      generalize decide (a7.toList = []) = b7
      generalize l5.length = n
      generalize decide (a1 < 0) = c1
      generalize decide (255 < a1) = c2
      rw [bne_dec a1, beq_dec a2, beq_dec a3, beq_dec a4]
      generalize decide (a1 = 0) = c3
      generalize decide (a2 = 0) = d2
      generalize decide (a3 = 0) = d3
      generalize decide (a4 = 0) = d4
      have g0 : decide ((n : Int) = -1) = false := decide_eq_false (by omega)
      have g1 : decide ((n : Int) = 0) = !decide (0 < (n : Int)) := by rw [Bool.eq_iff_iff]; simp
      have gN : decide (0 < n) = !decide (n = 0) := by rw [Bool.eq_iff_iff]; simp; omega
      have g2 : ((n : Int) % 2 == 0) = decide ((n : Int) % 2 = 0) := by rw [Bool.eq_iff_iff]; simp
      rcases kinds15 h with rfl | rfl | rfl | rfl | rfl | rfl | rfl | rfl | rfl | rfl | rfl | rfl | rfl | rfl | rfl
      all_goals
        simp only [mostI, sqB, nB, lsI, psB, mrB, sfB]
        simp [g0, g1, g2]
        try (cases b2 <;> cases b3 <;> cases b4 <;> cases b5 <;> cases b7 <;> cases c1 <;> cases c2 <;> simp <;> (try simp only [gN]) <;> ac_rfl)
    rw [eb, ea]
    rfl
  · rw [if_pos (by omega), if_neg h]
end Go.Proofs.YtjbnihaekgmhlaaDoor
namespace Go.Proofs.YtjbnihaekgmhlaaDoor
open Go.RowKit Pr Go.Proofs.YtjbnihaekgmhlaaDoorW.PrintWords Go.Proofs.YtjbnihaekgmhlaaDoorW.PrintMore
set_option linter.unusedSimpArgs false
set_option linter.unusedVariables false

/-! The words. -/
def wordsL (a0 a1 a3 a4 : Int) (l5 : List Int) : List Int := (if sqB a0 = true then [a1 % 4294967296] else []) ++ l5 ++ (if psB a0 = true then [a3] else []) ++ (if mrB a0 = true then [a4] else [])
theorem words_l0 (x131000 x131001 x131002 x131003 x131004 : Int) (l : List Int) (x131006 : Bool) (x131007 : ByteArray) (y0 : Int) (y1 y2 : Bool) (y3 : Int) (y4 y5 y6 y7 : Bool) (hl : l.length ≤ 1000) :
    ∀ (d k i : Nat) (acc : List Int), i + d = l.length → d + 2 < k → acc.length ≤ 1 + i →
      pdu_PDU_words.l0 k acc l (l.length : Int) (i : Int) x131000 x131001 x131002 x131003 x131004 l x131006 x131007 y0 y1 y2 y3 y4 y5 y6 y7 = some (acc ++ l.drop i ++ (if y4 = true then [x131003] else []) ++ (if y5 = true then [x131004] else []))
  | 0, k, i, acc, h, hk, ha => by
    obtain ⟨k, rfl⟩ : ∃ m, k = m + 2 := ⟨k - 2, by omega⟩
    simp only [pdu_PDU_words.l0]
    rw [if_neg (by omega), List.drop_of_length_le (by omega), List.append_nil]
    cases y4
    · simp only [Bool.false_eq_true, if_false, pdu_PDU_words.j2]
      cases y5
      · simp
      · simp only [if_true]
        rw [if_pos (by omega)]
        simp
    · simp only [if_true]
      rw [if_pos (by omega)]
      simp only [pdu_PDU_words.j2]
      cases y5
      · simp
      · simp only [if_true]
        rw [if_pos (by rw [List.length_append]; simp; omega)]
  | d + 1, k, i, acc, h, hk, ha => by
    obtain ⟨k, rfl⟩ : ∃ m, k = m + 1 := ⟨k - 1, by omega⟩
    have hi : i < l.length := by omega
    simp only [pdu_PDU_words.l0]
    rw [if_pos (by omega), if_pos (by omega), if_pos (by omega), if_pos (by omega), rd_at l i hi, wrap_next i (by omega),
      words_l0 x131000 x131001 x131002 x131003 x131004 l x131006 x131007 y0 y1 y2 y3 y4 y5 y6 y7 hl d k (i + 1) (acc ++ [l[i]]) (by omega) (by omega) (by rw [List.length_append]; simp; omega), List.drop_eq_getElem_cons hi]
    simp
theorem words_f (k : Nat) (a0 a1 a2 a3 a4 : Int) (l5 : List Int) (a6 : Bool) (a7 : ByteArray) (h : 1 ≤ a0 ∧ a0 ≤ 15) (hl : l5.length ≤ 1000) (hk : 2000 ≤ k) : pdu_PDU_words.f k a0 a1 a2 a3 a4 l5 a6 a7 = some (wordsL a0 a1 a3 a4 l5) := by
  obtain ⟨k, rfl⟩ : ∃ m, k = m + 4 := ⟨k - 4, by omega⟩
  unfold pdu_PDU_words.f wordsL
  rw [shape_in k a0 h]
  simp only [Option.bind_some]
  have e := fun acc ha => words_l0 a0 a1 a2 a3 a4 l5 a6 a7 (mostI a0) (sqB a0) (nB a0) (lsI a0) (psB a0) (mrB a0) (sfB a0) true hl l5.length (k + 3) 0 acc (by omega) (by omega) ha
  cases hs : sqB a0
  · rw [hs] at e
    simp only [Bool.false_eq_true, if_false, pdu_PDU_words.j0]
    have := e [] (by simp)
    simpa using this
  · rw [hs] at e
    simp only [if_true, pdu_PDU_words.j0]
    rw [if_pos (by simp)]
    have := e [a1 % 4294967296] (by simp)
    simpa using this
theorem wordsL_len (a0 a1 a3 a4 : Int) (l5 : List Int) : (wordsL a0 a1 a3 a4 l5).length ≤ l5.length + 3 := by
  unfold wordsL
  simp only [List.length_append]
  have : ∀ (b : Bool) (x : Int), (if b = true then [x] else []).length ≤ 1 := by intro b x; cases b <;> simp
  have h1 := this (sqB a0) (a1 % 4294967296)
  have h2 := this (psB a0) a3
  have h3 := this (mrB a0) a4
  omega
def bytesP (a0 a1 a2 a3 a4 : Int) (l5 : List Int) (a6 : Bool) (a7 : ByteArray) : List UInt8 := bytesL a0 a2 a6 a7.data.toList (wordsL a0 a1 a3 a4 l5)
theorem chk_kind {a0 a1 a2 a3 a4 : Int} {l5 : List Int} {a6 : Bool} {a7 : ByteArray} (h : chkP a0 a1 a2 a3 a4 l5 a6 a7 = 0) : 1 ≤ a0 ∧ a0 ≤ 15 := by
  by_cases hk : 1 ≤ a0 ∧ a0 ≤ 15
  · exact hk
  · unfold chkP at h
    rw [if_neg hk] at h
    exact absurd h (by decide)
theorem bytes_f (k : Nat) (a0 a1 a2 a3 a4 : Int) (l5 : List Int) (a6 : Bool) (a7 : ByteArray) (hl : l5.length ≤ 1000) (hd : a7.size ≤ 1000) (hk : 2000 ≤ k) :
    pdu_PDU_Bytes.f k a0 a1 a2 a3 a4 l5 a6 a7 = some (if chkP a0 a1 a2 a3 a4 l5 a6 a7 = 0 then ⟨(bytesP a0 a1 a2 a3 a4 l5 a6 a7).toArray⟩ else ⟨#[]⟩) := by
  obtain ⟨k, rfl⟩ : ∃ m, k = m + 4 := ⟨k - 4, by omega⟩
  unfold pdu_PDU_Bytes.f
  rw [check_f]
  simp only [Option.bind_some]
  by_cases h : chkP a0 a1 a2 a3 a4 l5 a6 a7 = 0
  · have hk := chk_kind h
    rw [words_f (k + 4) a0 a1 a2 a3 a4 l5 a6 a7 hk hl (by omega), h]
    have := wordsL_len a0 a1 a3 a4 l5
    simp only [Option.bind_some]
    rw [if_neg (by simp), if_pos (by omega), if_pos trivial]
    rfl
  · rw [if_pos (by simpa using h), if_neg h]

/-! The statements' helpers. -/
def clI (x : Int) : Int := mx 0 (mn x 4294967295)
theorem clI_bd (x : Int) : 0 ≤ clI x ∧ clI x < 4294967296 := by unfold clI mx mn; omega
theorem clI_id (x : Int) (h0 : 0 ≤ x) (h1 : x < 4294967296) : clI x = x := by unfold clI mx mn; omega
def cutB (s : ByteArray) (n : Nat) : ByteArray := s.extract 0 (min s.size n)
theorem cut_f (s : ByteArray) (n : Nat) : polliwoglaw02_Cut.f s (n : Int) = some (cutB s n) := by
  unfold polliwoglaw02_Cut.f cutB
  split
  · rw [if_pos (by omega), if_pos (by omega)]
    rw [Nat.min_eq_right (by omega)]
    rfl
  · rw [Nat.min_eq_left (by omega)]
    simp
theorem cutB_size (s : ByteArray) (n : Nat) : (cutB s n).size ≤ n := by
  unfold cutB
  rw [ByteArray.size_extract]
  omega
theorem few_l0 (x0 x1 x2 x3 x4 : Int) (l : List Int) (x6 : Bool) (x7 : ByteArray) : ∀ (d k i : Nat) (acc : List Int), i + d = min l.length 140 → d < k → acc.length ≤ i →
      polliwoglaw06_Few.l0 k acc (i : Int) x0 x1 x2 x3 x4 l x6 x7 = some (x0, x1, x2, x3, x4, acc ++ ((l.take 140).drop i).map clI, x6, x7)
  | 0, k, i, acc, h, hk, ha => by
    obtain ⟨k, rfl⟩ : ∃ m, k = m + 1 := ⟨k - 1, by omega⟩
    have e : (l.take 140).drop i = [] := List.drop_of_length_le (by rw [List.length_take]; omega)
    simp only [polliwoglaw06_Few.l0]
    rw [e]
    simp only [List.map_nil, List.append_nil]
    by_cases h1 : (i : Int) < (l.length : Int)
    · rw [if_pos h1, if_neg (by omega)]
    · rw [if_neg h1]
  | d + 1, k, i, acc, h, hk, ha => by
    obtain ⟨k, rfl⟩ : ∃ m, k = m + 1 := ⟨k - 1, by omega⟩
    have hi : i < l.length := by omega
    have hi2 : i < (l.take 140).length := by rw [List.length_take]; omega
    simp only [polliwoglaw06_Few.l0]
    rw [if_pos (by omega), if_pos (by omega), if_pos (by omega), rd_at l i hi, wrap_next i (by omega)]
    unfold polliwoglaw06_Few_1.f
    simp only [Option.bind_some]
    rw [if_pos (by omega), few_l0 x0 x1 x2 x3 x4 l x6 x7 d k (i + 1) _ (by omega) (by omega) (by rw [List.length_append]; simp; omega), List.drop_eq_getElem_cons hi2, List.getElem_take]
    simp [clI]
def fewL (l : List Int) : List Int := (l.take 140).map clI
theorem fewL_len (l : List Int) : (fewL l).length ≤ 140 := by unfold fewL; rw [List.length_map, List.length_take]; omega
theorem few_f (k : Nat) (a0 a1 a2 a3 a4 : Int) (l5 : List Int) (a6 : Bool) (a7 : ByteArray) (hk : 2000 ≤ k) : polliwoglaw06_Few.f k a0 a1 a2 a3 a4 l5 a6 a7 = some (a0, a1, clI a2, clI a3, clI a4, fewL l5, a6, cutB a7 210) := by
  unfold polliwoglaw06_Few.f polliwoglaw06_Few_1.f
  have hc := cut_f a7 210
  simp only [Option.bind_some]
  rw [show ((210 : Nat) : Int) = 210 from rfl] at hc
  rw [hc]
  simp only [Option.bind_some]
  have := few_l0 a0 a1 (clI a2) (clI a3) (clI a4) l5 a6 (cutB a7 210) (min l5.length 140) k 0 [] (by omega) (by omega) (by simp)
  rw [List.drop_zero, List.nil_append] at this
  exact this
theorem num_few (a2 a3 a4 : Int) (l5 : List Int) : Num32 (clI a2) (clI a3) (clI a4) (fewL l5) := by
  refine ⟨(clI_bd _).1, (clI_bd _).2, (clI_bd _).1, (clI_bd _).2, (clI_bd _).1, (clI_bd _).2, fun x hx => ?_, fewL_len _⟩
  unfold fewL at hx
  obtain ⟨y, _, rfl⟩ := List.mem_map.1 hx
  exact clI_bd y
theorem own_l0 (x0 x1 x2 x3 x4 : Int) (l : List Int) (x6 : Bool) (x7 : ByteArray) (hl : l.length ≤ 1000) (hb : ∀ x ∈ l, 0 ≤ x ∧ x < 4294967296) : ∀ (d k i : Nat) (acc : List Int), i + d = l.length → d < k → acc.length ≤ i →
      polliwoglaw06_Own.l0 k l (l.length : Int) (i : Int) x0 x1 x2 x3 x4 acc x6 x7 = some (x0, x1, x2, x3, x4, acc ++ l.drop i, x6, x7)
  | 0, k, i, acc, h, hk, ha => by
    obtain ⟨k, rfl⟩ : ∃ m, k = m + 1 := ⟨k - 1, by omega⟩
    simp only [polliwoglaw06_Own.l0]
    rw [if_neg (by omega), List.drop_of_length_le (by omega), List.append_nil]
  | d + 1, k, i, acc, h, hk, ha => by
    obtain ⟨k, rfl⟩ : ∃ m, k = m + 1 := ⟨k - 1, by omega⟩
    have hi : i < l.length := by omega
    have hx := hb l[i] (List.getElem_mem hi)
    have hc := clI_id l[i] hx.1 hx.2
    unfold clI at hc
    simp only [polliwoglaw06_Own.l0]
    rw [if_pos (by omega), if_pos (by omega), if_pos (by omega), rd_at l i hi, wrap_next i (by omega)]
    unfold polliwoglaw06_num.f
    simp only [Option.bind_some]
    rw [hc, if_pos (by omega), own_l0 x0 x1 x2 x3 x4 l x6 x7 hl hb d k (i + 1) _ (by omega) (by omega) (by rw [List.length_append]; simp; omega), List.drop_eq_getElem_cons hi]
    simp
theorem own_f (k : Nat) (a0 a1 a2 a3 a4 : Int) (l5 : List Int) (a6 : Bool) (a7 : ByteArray) (hn : Num32 a2 a3 a4 l5) (hk : 2000 ≤ k) : polliwoglaw06_Own.f k a0 a1 a2 a3 a4 l5 a6 a7 = some (a0, a1, a2, a3, a4, l5, a6, a7) := by
  unfold polliwoglaw06_Own.f polliwoglaw06_num.f
  have c2 := clI_id a2 hn.n0 hn.n1
  have c3 := clI_id a3 hn.p0 hn.p1
  have c4 := clI_id a4 hn.m0 hn.m1
  unfold clI at c2 c3 c4
  simp only [Option.bind_some]
  rw [c2, c3, c4]
  have := own_l0 a0 a1 a2 a3 a4 l5 a6 a7 (by have := hn.len; omega) hn.l l5.length k 0 [] (by omega) (by have := hn.len; omega) (by simp)
  simpa using this

/-! What a unit that may be is. -/
theorem arg_false {b1 b2 b3 r2 : Bool} {a1 : Int} (h : okArg b1 b2 b3 r2 a1 = false) : b1 = true ∧ b2 = true ∧ b3 = true ∧ 0 ≤ a1 ∧ a1 ≤ 255 ∧ (r2 = false → a1 = 0) := by
  unfold okArg at h
  simp only [Bool.or_eq_false_iff, Bool.not_eq_eq_eq_not, Bool.not_false, decide_eq_false_iff_not, Bool.and_eq_false_imp, bne_eq_false_iff_eq, Bool.not_true] at h
  obtain ⟨⟨⟨⟨⟨h1, h2⟩, h3⟩, h4⟩, h5⟩, h6⟩ := h
  exact ⟨h1, h2, h3, by omega, by omega, h6⟩
/-- A unit that may be, by its parts. -/
structure May (a0 a1 a2 a3 a4 : Int) (l5 : List Int) (a6 : Bool) (a7 : ByteArray) : Prop where
  kind : 1 ≤ a0 ∧ a0 ≤ 15
  s0 : 0 ≤ a1
  s1 : a1 ≤ 255
  sq : sqB a0 = false → a1 = 0
  n0 : 0 ≤ a2
  n1 : a2 < 16777216
  n : nB a0 = false → a2 = 0
  ps : psB a0 = false → a3 = 0
  mr : mrB a0 = false → a4 = 0
  p0 : 0 ≤ a3
  p1 : a3 < 16777216
  m0 : 0 ≤ a4
  m1 : a4 < 16777216
  l : ∀ x ∈ l5, 0 ≤ x ∧ x < 16777216
  len : l5.length ≤ 128
  ls : (lsI a0 < 0 ∧ l5.length % 2 = 0) ∨ (l5.length : Int) = lsI a0
  self : sfB a0 = false → a6 = false
  data : mostI a0 = 0 → a7.size = 0
  dlen : a7.size ≤ 200
theorem low24_iff {x : Int} (h : low24 x = true) : 0 ≤ x ∧ x < 16777216 := by unfold low24 at h; simpa using h
theorem may_of {a0 a1 a2 a3 a4 : Int} {l5 : List Int} {a6 : Bool} {a7 : ByteArray} (hn : Num32 a2 a3 a4 l5) (h : chkP a0 a1 a2 a3 a4 l5 a6 a7 = 0) : May a0 a1 a2 a3 a4 l5 a6 a7 := by
  have hk := chk_kind h
  unfold chkP at h
  rw [if_pos hk] at h
  unfold chkI at h
  rw [if_neg (by simp)] at h
  have hb : okBig l5.length (mostI a0) a7.size = false := by
    cases hq : okBig l5.length (mostI a0) a7.size
    · rfl
    · rw [hq, if_pos rfl] at h
      exact absurd h (by decide)
  rw [hb, if_neg (by simp)] at h
  have ha : okArg (okList l5.length (lsI a0)) (okAll a2 a3 a4 l5) (okSome (mostI a0) (nB a0) (psB a0) (mrB a0) (sfB a0) a2 a3 a4 a6 a7) (sqB a0) a1 = false := by
    cases hq : okArg (okList l5.length (lsI a0)) (okAll a2 a3 a4 l5) (okSome (mostI a0) (nB a0) (psB a0) (mrB a0) (sfB a0) a2 a3 a4 a6 a7) (sqB a0) a1
    · rfl
    · rw [hq, if_pos rfl] at h
      exact absurd h (by decide)
  obtain ⟨h1, h2, h3, h4, h5, h6⟩ := arg_false ha
  unfold okAll at h2
  rw [lowB_24 a2 hn.n0 hn.n1, lowB_24 a3 hn.p0 hn.p1, lowB_24 a4 hn.m0 hn.m1, all_low l5 hn.l] at h2
  simp only [Bool.and_eq_true] at h2
  obtain ⟨⟨⟨e2, e3⟩, e4⟩, e5⟩ := h2
  have hl : ∀ x ∈ l5, 0 ≤ x ∧ x < 16777216 := fun x hx => low24_iff (List.all_eq_true.1 e5 x hx)
  unfold okSome at h3
  simp only [Bool.and_eq_true, Bool.or_eq_true, beq_iff_eq, decide_eq_true_eq, Bool.not_eq_true'] at h3
  obtain ⟨⟨⟨⟨g1, g2⟩, g3⟩, g4⟩, g5⟩ := h3
  unfold okBig at hb
  simp only [Bool.or_eq_false_iff, Bool.and_eq_false_imp, decide_eq_true_eq, decide_eq_false_iff_not] at hb
  have hsz : a7.toList.isEmpty = true → a7.size = 0 := by
    intro he
    rw [ByteArray.toList_eq, List.isEmpty_iff] at he
    have : a7.data.toList.length = 0 := by rw [he]; rfl
    rw [Array.length_toList] at this
    exact this
  have hm : mostI a0 = 64 ∨ mostI a0 = 200 ∨ mostI a0 = 0 := by
    unfold mostI
    repeat' split
    all_goals simp
  refine ⟨hk, h4, h5, h6, (low24_iff e2).1, (low24_iff e2).2, fun q => ?_, fun q => ?_, fun q => ?_, (low24_iff e3).1, (low24_iff e3).2, (low24_iff e4).1, (low24_iff e4).2, hl, by omega, ?_, fun q => ?_, fun q => ?_, ?_⟩
  · rcases g2 with g | g
    · rw [q] at g; simp at g
    · exact g
  · rcases g3 with g | g
    · rw [q] at g; simp at g
    · exact g
  · rcases g4 with g | g
    · rw [q] at g; simp at g
    · exact g
  · unfold okList at h1
    simp only [Bool.or_eq_true, Bool.and_eq_true, decide_eq_true_eq, beq_iff_eq] at h1
    rcases h1 with h1 | ⟨h1, h1'⟩
    · exact .inr h1
    · exact .inl ⟨h1, by omega⟩
  · rcases g5 with g | g
    · rw [q] at g; simp at g
    · exact g
  · rcases g1 with g | g
    · omega
    · exact hsz g
  · rcases g1 with g | g
    · have := hb.1
      by_cases q : mostI a0 < (a7.size : Int)
      · exact absurd g (this q)
      · rcases hm with hm | hm | hm <;> omega
    · have := hsz g
      omega
end Go.Proofs.YtjbnihaekgmhlaaDoor
namespace Go.Proofs.YtjbnihaekgmhlaaDoor
open Go.RowKit Pr Go.Proofs.YtjbnihaekgmhlaaDoorW.PrintWords Go.Proofs.YtjbnihaekgmhlaaDoorW.PrintMore
set_option linter.unusedSimpArgs false
set_option linter.unusedVariables false

/-! slices.Reverse. -/
theorem rev_l0 (l : List Int) (n : Nat) (hn : l.length = n) (hl : n ≤ 1000) : ∀ (d k i : Nat) (x : List Int), n ≤ 2 * i + d → d < k → x.length = n → i ≤ n →
      (∀ p, p < n → x[p]? = if p < i ∨ n - i ≤ p then l[n - 1 - p]? else l[p]?) →
      seq_Num_58.l0 k x (i : Int) ((n : Int) - 1 - (i : Int)) = some l.reverse := by
  intro d
  induction d with
  | zero =>
    intro k i x h hk hx hi hp
    obtain ⟨k, rfl⟩ : ∃ m, k = m + 1 := ⟨k - 1, by omega⟩
    simp only [seq_Num_58.l0]
    rw [if_neg (by omega)]
    congr 1
    apply List.ext_getElem?
    intro p
    by_cases hpn : p < n
    · rw [hp p hpn, if_pos (by omega), List.getElem?_reverse (by omega), hn]
    · rw [List.getElem?_eq_none (by omega), List.getElem?_eq_none (by rw [List.length_reverse]; omega)]
  | succ d ih =>
    intro k i x h hk hx hi hp
    obtain ⟨k, rfl⟩ : ∃ m, k = m + 1 := ⟨k - 1, by omega⟩
    simp only [seq_Num_58.l0]
    by_cases hlt : (i : Int) < (n : Int) - 1 - (i : Int)
    · have ej : (n : Int) - 1 - (i : Int) = ((n - 1 - i : Nat) : Int) := by omega
      have ej2 : wrap64 ((n : Int) - 1 - (i : Int) - 1) = (n : Int) - 1 - ((i + 1 : Nat) : Int) := by unfold wrap64; omega
      have hi2 : i < x.length := by omega
      have hj2 : n - 1 - i < x.length := by omega
      rw [if_pos hlt, if_pos (by omega), if_pos (by omega), if_pos (by omega), if_pos (by omega), wrap_next i (by omega), ej2, ej, rd_at x _ hj2, rd_at x i hi2]
      rw [show ((i : Int)).toNat = i from by omega, show (((n - 1 - i : Nat) : Int)).toNat = n - 1 - i from by omega]
      refine ih k (i + 1) _ (by omega) (by omega) (by simp [hx]) (by omega) (fun p hpn => ?_)
      have xi := hp i (by omega)
      rw [if_neg (by omega), List.getElem?_eq_getElem hi2] at xi
      have xj := hp (n - 1 - i) (by omega)
      rw [if_neg (by omega), List.getElem?_eq_getElem hj2] at xj
      rw [List.getElem?_set, List.getElem?_set]
      by_cases p1 : n - 1 - i = p
      · subst p1
        rw [if_pos rfl, if_pos (by simp; omega), if_pos (by omega), show n - 1 - (n - 1 - i) = i from by omega]
        exact xi
      · rw [if_neg p1]
        by_cases p2 : i = p
        · subst p2
          rw [if_pos rfl, if_pos hi2, if_pos (by omega)]
          exact xj
        · rw [if_neg p2, hp p hpn]
          by_cases q : p < i ∨ n - i ≤ p
          · rw [if_pos q, if_pos (by omega)]
          · rw [if_neg q, if_neg (by omega)]
    · rw [if_neg hlt]
      congr 1
      apply List.ext_getElem?
      intro p
      by_cases hpn : p < n
      · rw [hp p hpn, List.getElem?_reverse (by omega), hn]
        by_cases q : p < i ∨ n - i ≤ p
        · rw [if_pos q]
        · rw [if_neg q, show n - 1 - p = p from by omega]
      · rw [List.getElem?_eq_none (by omega), List.getElem?_eq_none (by rw [List.length_reverse]; omega)]
theorem rev_f (k : Nat) (l : List Int) (hl : l.length ≤ 1000) (hk : 2000 ≤ k) : seq_Num_58.f k l = some l.reverse := by
  unfold seq_Num_58.f
  have e : wrap64 ((l.length : Int) - 1) = (l.length : Int) - 1 - ((0 : Nat) : Int) := by unfold wrap64; omega
  rw [e]
  exact rev_l0 l l.length rfl hl l.length k 0 l (by omega) (by omega) rfl (by omega) (fun p hp => by rw [if_neg (by omega)])

/-! A unit's bytes, taken word by word. -/
def baseL (a7 : ByteArray) : List UInt8 := a7.data.toList ++ List.replicate (padN a7.size) 0
def baseW (a7 : ByteArray) (ws : List Int) : ByteArray := ⟨(baseL a7 ++ ws.flatMap fourL).toArray⟩
theorem size_toList (a : ByteArray) : a.data.toList.length = a.size := by rw [Array.length_toList]; rfl
theorem baseL_len (a7 : ByteArray) : (baseL a7).length = a7.size + padN a7.size := by unfold baseL; rw [List.length_append, size_toList, List.length_replicate]
theorem padN_lt (n : Nat) : padN n < 4 := by unfold padN; omega
theorem baseW_size (a7 : ByteArray) (ws : List Int) : (baseW a7 ws).size = a7.size + padN a7.size + 4 * ws.length := by
  unfold baseW
  rw [size_mk', List.length_append, baseL_len, flat_len]
theorem baseW_take (a7 : ByteArray) (ws : List Int) (x : Int) (h0 : 0 ≤ x) (h1 : x < 4294967296) (hd : a7.size ≤ 1000) (hl : ws.length ≤ 1000) : pdu_tail_take.f (baseW a7 (ws ++ [x])) = some (x, baseW a7 ws) := by
  have := take_four (baseL a7 ++ ws.flatMap fourL) x h0 h1 (by rw [List.length_append, baseL_len, flat_len]; have := padN_lt a7.size; omega)
  unfold baseW
  rw [List.flatMap_append, ← List.append_assoc]
  simpa using this
theorem bytesP_base (a0 a1 a2 a3 a4 : Int) (l5 : List Int) (a6 : Bool) (a7 : ByteArray) : (⟨(bytesP a0 a1 a2 a3 a4 l5 a6 a7).toArray⟩ : ByteArray) = baseW a7 (wordsL a0 a1 a3 a4 l5 ++ [lastW a0 a2 a6 (padN a7.size)]) := by
  unfold bytesP bytesL baseW baseL
  rw [size_toList, List.flatMap_append]
  simp
theorem last_may {a0 a1 a2 a3 a4 : Int} {l5 : List Int} {a6 : Bool} {a7 : ByteArray} (m : May a0 a1 a2 a3 a4 l5 a6 a7) : 0 ≤ lastW a0 a2 a6 (padN a7.size) ∧ lastW a0 a2 a6 (padN a7.size) < 4294967296 :=
  last_bounds a0 a2 a6 _ (by have := m.kind; omega) (by have := m.kind; omega) m.n0 m.n1 (padN_lt _)
theorem words_may {a0 a1 a2 a3 a4 : Int} {l5 : List Int} {a6 : Bool} {a7 : ByteArray} (m : May a0 a1 a2 a3 a4 l5 a6 a7) : ∀ x ∈ wordsL a0 a1 a3 a4 l5, 0 ≤ x ∧ x < 4294967296 := by
  intro x hx
  unfold wordsL at hx
  simp only [List.mem_append] at hx
  rcases hx with ((hx | hx) | hx) | hx
  · split at hx
    · rw [List.mem_singleton.1 hx]; omega
    · simp at hx
  · have := m.l x hx; omega
  · split at hx
    · rw [List.mem_singleton.1 hx]; have := m.p0; have := m.p1; omega
    · simp at hx
  · split at hx
    · rw [List.mem_singleton.1 hx]; have := m.m0; have := m.m1; omega
    · simp at hx
/-- The same bytes: the same words, the same data. -/
theorem flat_inj : ∀ (ws vs : List Int), ws.length = vs.length → (∀ x ∈ ws, 0 ≤ x ∧ x < 4294967296) → (∀ x ∈ vs, 0 ≤ x ∧ x < 4294967296) → ws.flatMap fourL = vs.flatMap fourL → ws = vs
  | [], [], _, _, _, _ => rfl
  | [], _ :: _, h, _, _, _ => by simp at h
  | _ :: _, [], h, _, _, _ => by simp at h
  | a :: ws, b :: vs, h, ha, hb, he => by
    rw [List.flatMap_cons, List.flatMap_cons] at he
    obtain ⟨h1, h2⟩ := List.append_inj he (by rw [fourL_len, fourL_len])
    have t1 := take_four [] a (ha a List.mem_cons_self).1 (ha a List.mem_cons_self).2 (by simp)
    have t2 := take_four [] b (hb b List.mem_cons_self).1 (hb b List.mem_cons_self).2 (by simp)
    rw [h1, t2] at t1
    have e : b = a := by simpa using t1
    rw [e, flat_inj ws vs (by simpa using h) (fun x hx => ha x (List.mem_cons_of_mem _ hx)) (fun x hx => hb x (List.mem_cons_of_mem _ hx)) h2]
theorem opt_len (b : Bool) (x y : Int) : (if b = true then [x] else []).length = (if b = true then [y] else []).length := by cases b <;> rfl
theorem opt_eq {b : Bool} {x y : Int} (h : (if b = true then [x] else []) = (if b = true then [y] else [])) (hx : b = false → x = 0) (hy : b = false → y = 0) : x = y := by
  cases b
  · rw [hx rfl, hy rfl]
  · simpa using h
theorem bytesP_inj {a0 a1 a2 a3 a4 : Int} {l5 : List Int} {a6 : Bool} {a7 : ByteArray} {b0 b1 b2 b3 b4 : Int} {m5 : List Int} {b6 : Bool} {b7 : ByteArray} (ma : May a0 a1 a2 a3 a4 l5 a6 a7) (mb : May b0 b1 b2 b3 b4 m5 b6 b7)
    (h : bytesP a0 a1 a2 a3 a4 l5 a6 a7 = bytesP b0 b1 b2 b3 b4 m5 b6 b7) : a0 = b0 ∧ a1 = b1 ∧ a2 = b2 ∧ a3 = b3 ∧ a4 = b4 ∧ l5 = m5 ∧ a6 = b6 ∧ a7 = b7 := by
  have la := last_may ma
  have lb := last_may mb
  have wa := wordsL_len a0 a1 a3 a4 l5
  have wb := wordsL_len b0 b1 b3 b4 m5
  have hla := ma.len
  have hlb := mb.len
  have da := ma.dlen
  have db := mb.dlen
  have t1 := baseW_take a7 (wordsL a0 a1 a3 a4 l5) _ la.1 la.2 (by omega) (by omega)
  have t2 := baseW_take b7 (wordsL b0 b1 b3 b4 m5) _ lb.1 lb.2 (by omega) (by omega)
  rw [← bytesP_base] at t1 t2
  rw [h, t2] at t1
  simp only [Option.some.injEq, Prod.mk.injEq] at t1
  obtain ⟨hlast, hbase⟩ := t1
  have ka := ma.kind
  have kb := mb.kind
  have pa := padN_lt a7.size
  have pb := padN_lt b7.size
  have e0 : a0 = b0 := by
    have x := last_kind a0 a2 a6 (padN a7.size) (by omega) (by omega) ma.n0 ma.n1 pa
    have y := last_kind b0 b2 b6 (padN b7.size) (by omega) (by omega) mb.n0 mb.n1 pb
    rw [hlast] at y
    rw [← x, ← y]
  have e2 : a2 = b2 := by
    have x := last_n a0 a2 a6 (padN a7.size) (by omega) (by omega) ma.n0 ma.n1 pa
    have y := last_n b0 b2 b6 (padN b7.size) (by omega) (by omega) mb.n0 mb.n1 pb
    rw [hlast] at y
    rw [← x, ← y]
  have e6 : a6 = b6 := by
    have x := last_self a0 a2 a6 (padN a7.size) (by omega) (by omega) ma.n0 ma.n1 pa
    have y := last_self b0 b2 b6 (padN b7.size) (by omega) (by omega) mb.n0 mb.n1 pb
    rw [hlast, x] at y
    revert y
    cases a6 <;> cases b6 <;> simp [bitI]
  have ep : padN a7.size = padN b7.size := by
    have x := last_pad a0 a2 a6 (padN a7.size) (by omega) (by omega) ma.n0 ma.n1 pa
    have y := last_pad b0 b2 b6 (padN b7.size) (by omega) (by omega) mb.n0 mb.n1 pb
    rw [hlast, x] at y
    omega
  subst e0 e2 e6
  have hb2 : baseL a7 ++ (wordsL a0 a1 a3 a4 l5).flatMap fourL = baseL b7 ++ (wordsL a0 b1 b3 b4 m5).flatMap fourL := by
    have := congrArg (fun z : ByteArray => z.data.toList) hbase
    unfold baseW at this
    simpa using this.symm
  have hlen := congrArg List.length hb2
  rw [List.length_append, List.length_append, baseL_len, baseL_len, flat_len, flat_len] at hlen
  have hopt := opt_len
  have wla : (wordsL a0 a1 a3 a4 l5).length + m5.length = (wordsL a0 b1 b3 b4 m5).length + l5.length := by
    unfold wordsL
    simp only [List.length_append]
    rw [hopt (sqB a0) (a1 % 4294967296) (b1 % 4294967296), hopt (psB a0) a3 b3, hopt (mrB a0) a4 b4]
    omega
  have el : l5.length = m5.length := by
    rcases ma.ls with ⟨q, _⟩ | q
    · have h11 : a0 = 11 := by
        unfold lsI at q
        split at q
        · assumption
        · split at q <;> omega
      have z1 := ma.data (by rw [h11]; rfl)
      have z2 := mb.data (by rw [h11]; rfl)
      omega
    · rcases mb.ls with ⟨q2, _⟩ | q2
      · omega
      · omega
  have ew : (wordsL a0 a1 a3 a4 l5).length = (wordsL a0 b1 b3 b4 m5).length := by omega
  obtain ⟨hbb, hww⟩ := List.append_inj' hb2 (by rw [flat_len, flat_len, ew])
  have ww := flat_inj _ _ ew (words_may ma) (words_may mb) hww
  have e7 : a7 = b7 := by
    unfold baseL at hbb
    have := (List.append_inj' hbb (by rw [List.length_replicate, List.length_replicate, ep])).1
    apply ByteArray.ext
    exact Array.toList_inj.1 this
  unfold wordsL at ww
  obtain ⟨w1, hm⟩ := List.append_inj' ww (hopt _ _ _)
  obtain ⟨w2, hp⟩ := List.append_inj' w1 (hopt _ _ _)
  obtain ⟨hs, hl⟩ := List.append_inj' w2 el
  have es : a1 = b1 := by
    cases hq : sqB a0
    · rw [ma.sq hq, mb.sq hq]
    · rw [hq] at hs
      simp only [if_true, List.cons.injEq, and_true] at hs
      have := ma.s0
      have := ma.s1
      have := mb.s0
      have := mb.s1
      omega
  exact ⟨rfl, es, rfl, opt_eq hp ma.ps mb.ps, opt_eq hm ma.mr mb.mr, hl, rfl, e7⟩

/-! Is a unit the document's? -/
theorem same_l0 (x0 x1 x2 x3 x4 : Int) (l m : List Int) (x6 : Bool) (x7 : ByteArray) (hl : l.length ≤ 1000) (he : m.length = l.length) (hb : ∀ x ∈ m, 0 ≤ x ∧ x < 4294967296) : ∀ (d k i : Nat), i + d = l.length → d < k →
      polliwoglaw06_Same.l0 k l (l.length : Int) (i : Int) x0 x1 x2 x3 x4 m x6 x7 = some (decide (m.drop i = l.drop i))
  | 0, k, i, h, hk => by
    obtain ⟨k, rfl⟩ : ∃ m, k = m + 1 := ⟨k - 1, by omega⟩
    simp only [polliwoglaw06_Same.l0]
    rw [if_neg (by omega), List.drop_of_length_le (by omega), List.drop_of_length_le (by omega)]
    simp
  | d + 1, k, i, h, hk => by
    obtain ⟨k, rfl⟩ : ∃ m, k = m + 1 := ⟨k - 1, by omega⟩
    have hi : i < l.length := by omega
    have hm : i < m.length := by omega
    have hx := hb m[i] (List.getElem_mem hm)
    have ew : wrap64 m[i] = m[i] := by unfold wrap64; omega
    simp only [polliwoglaw06_Same.l0]
    rw [if_pos (by omega), if_pos (by omega), if_pos (by omega), if_pos (by omega), rd_at l i hi, rd_at m i hm, ew, wrap_next i (by omega), same_l0 x0 x1 x2 x3 x4 l m x6 x7 hl he hb d k (i + 1) (by omega) (by omega)]
    have e : (m.drop i = l.drop i) ↔ (m[i] = l[i] ∧ m.drop (i + 1) = l.drop (i + 1)) := by
      rw [List.drop_eq_getElem_cons hi, List.drop_eq_getElem_cons hm, List.cons.injEq]
    by_cases q : m[i] = l[i]
    · rw [if_pos q]
      congr 1
      rw [Bool.eq_iff_iff]
      simp only [decide_eq_true_eq]
      rw [e]
      simp [q]
    · rw [if_neg q]
      congr 1
      rw [Bool.eq_iff_iff]
      simp only [decide_eq_true_eq]
      rw [e]
      simp [q]
theorem same_f (k : Nat) (a0 a1 a2 a3 a4 : Int) (l5 : List Int) (a6 : Bool) (a7 : ByteArray) (b0 b1 b2 b3 b4 : Int) (m5 : List Int) (b6 : Bool) (b7 : ByteArray) (hn : Num32 a2 a3 a4 l5) (hm : m5.length ≤ 1000) (hk : 2000 ≤ k) :
    polliwoglaw06_Same.f k a0 a1 a2 a3 a4 l5 a6 a7 b0 b1 b2 b3 b4 m5 b6 b7 = some (decide (a0 = b0 ∧ a1 = b1 ∧ a2 = b2 ∧ a3 = b3 ∧ a4 = b4 ∧ l5 = m5 ∧ a6 = b6 ∧ a7 = b7)) := by
  obtain ⟨k, rfl⟩ : ∃ m, k = m + 1 := ⟨k - 1, by omega⟩
  have j : ∀ b, polliwoglaw06_Same.j0 (k + 1) b a0 a1 a2 a3 a4 l5 a6 a7 b0 b1 b2 b3 b4 m5 b6 b7 = if b = true then some false else polliwoglaw06_Same.l0 k m5 (m5.length : Int) 0 a0 a1 a2 a3 a4 l5 a6 a7 := fun b => by simp only [polliwoglaw06_Same.j0]
  have w2 : wrap64 a2 = a2 := by have := hn.n0; have := hn.n1; unfold wrap64; omega
  have w3 : wrap64 a3 = a3 := by have := hn.p0; have := hn.p1; unfold wrap64; omega
  have w4 : wrap64 a4 = a4 := by have := hn.m0; have := hn.m1; unfold wrap64; omega
  unfold polliwoglaw06_Same.f
  rw [w2, w3, w4]
  simp only [j]
  have e7 : (a7.toList = b7.toList) ↔ a7 = b7 := by
    rw [ByteArray.toList_eq, ByteArray.toList_eq]
    exact ⟨fun h => ByteArray.ext (Array.toList_inj.1 h), fun h => by rw [h]⟩
  by_cases h0 : a0 = b0
  · by_cases h1 : a1 = b1
    · by_cases h2 : a2 = b2
      · by_cases h3 : a3 = b3
        · by_cases h4 : a4 = b4
          · by_cases h6 : a6 = b6
            · by_cases h7 : a7 = b7
              · by_cases hl : l5.length = m5.length
                · have := same_l0 a0 a1 a2 a3 a4 m5 l5 a6 a7 hm hl hn.l m5.length k 0 (by omega) (by omega)
                  rw [if_pos h0, if_pos h1, if_pos h2, if_pos h3, if_pos h4, if_neg (by simpa using h6), if_pos (e7.2 h7), if_neg (by simpa using (by omega : (l5.length : Int) = (m5.length : Int)))]
                  rw [show (0 : Int) = ((0 : Nat) : Int) from rfl, this]
                  simp [h0, h1, h2, h3, h4, h6, h7]
                · have : l5 ≠ m5 := fun q => hl (by rw [q])
                  rw [if_pos h0, if_pos h1, if_pos h2, if_pos h3, if_pos h4, if_neg (by simpa using h6), if_pos (e7.2 h7), if_pos (by simpa using (by omega : ¬ (l5.length : Int) = (m5.length : Int)))]
                  simp [this]
              · rw [if_pos h0, if_pos h1, if_pos h2, if_pos h3, if_pos h4, if_neg (by simpa using h6), if_neg (fun q => h7 (e7.1 q))]
                simp [h7]
            · rw [if_pos h0, if_pos h1, if_pos h2, if_pos h3, if_pos h4, if_pos (by simpa using h6)]
              simp [h6]
          · rw [if_pos h0, if_pos h1, if_pos h2, if_pos h3, if_neg h4]
            simp [h4]
        · rw [if_pos h0, if_pos h1, if_pos h2, if_neg h3]
          simp [h3]
      · rw [if_pos h0, if_pos h1, if_neg h2]
        simp [h2]
    · rw [if_pos h0, if_neg h1]
      simp [h1]
  · rw [if_neg h0]
    simp [h0]
end Go.Proofs.YtjbnihaekgmhlaaDoor
