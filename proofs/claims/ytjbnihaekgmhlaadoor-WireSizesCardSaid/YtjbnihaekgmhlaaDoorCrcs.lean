/- crc.Table's Sum, Fits, Seal at this translation: their walks. -/
import Derived.Laws.BitsLemmas
import Derived.Test.YtjbnihaekgmhlaaDoorPr0
import Derived.Test.YtjbnihaekgmhlaaDoorAid
import Derived.WalkKit
import Derived.Lib.Hide
import Derived.Laws.Rows
import Derived.Laws.Tables
import Derived.Laws.CopyOwn
import Derived.Outline
import Derived.Test.YtjbnihaekgmhlaaDoorFs
import Derived.Deep.QuietTactic
import Derived.BigQuiet
import Derived.StillTailTactics
import Derived.Deep.RegionHeld3
namespace Go.Proofs.YtjbnihaekgmhlaaDoor.PolCrc
set_option linter.unusedSimpArgs false
set_option linter.unusedVariables false

/-- One bit's step of the register. -/
def s1 (x : BitVec 32) : BitVec 32 := if x.msb then (x <<< 1) ^^^ 0x04c11db7#32 else x <<< 1

theorem s1_zero : s1 0#32 = 0#32 := by decide

theorem s1_xor (x y : BitVec 32) : s1 (x ^^^ y) = s1 x ^^^ s1 y := by
  unfold s1
  rw [BitVec.msb_xor, BitVec.shiftLeft_xor_distrib]
  cases hx : x.msb <;> cases hy : y.msb <;> simp
  · rw [BitVec.xor_assoc]
  · rw [BitVec.xor_assoc, BitVec.xor_comm (y <<< 1), ← BitVec.xor_assoc]
  · have e : ∀ a b p : BitVec 32, a ^^^ b = a ^^^ p ^^^ (b ^^^ p) := by
      intro a b p
      rw [BitVec.xor_assoc, BitVec.xor_comm b p, ← BitVec.xor_assoc p p b, BitVec.xor_self, BitVec.zero_xor]
    exact e _ _ _

theorem s1_eq_zero (x : BitVec 32) (h : s1 x = 0#32) : x = 0#32 := by
  unfold s1 at h
  split at h
  · have h0 := congrArg (fun z : BitVec 32 => z.getLsbD 0) h
    simp at h0
  · rename_i hm
    apply BitVec.eq_of_getLsbD_eq
    intro i hi
    have hm' : x.getLsbD 31 = false := by
      have : x.msb = x.getLsbD 31 := by simp [BitVec.msb_eq_getLsbD_last]
      rw [← this]; simpa using hm
    by_cases h31 : i = 31
    · subst h31; simpa using hm'
    · have h0 := congrArg (fun z : BitVec 32 => z.getLsbD (i + 1)) h
      simp [show i + 1 < 32 by omega] at h0
      rw [BitVec.getLsbD_eq_getElem (by omega)]
      simpa using h0

/-- n steps. -/
def sn : Nat → BitVec 32 → BitVec 32
  | 0, x => x
  | n + 1, x => sn n (s1 x)

theorem sn_xor (n : Nat) : ∀ x y, sn n (x ^^^ y) = sn n x ^^^ sn n y := by
  induction n with
  | zero => intro x y; rfl
  | succ n ih => intro x y; simp only [sn]; rw [s1_xor, ih]

theorem sn_zero (n : Nat) : sn n 0#32 = 0#32 := by
  induction n with
  | zero => rfl
  | succ n ih => simp only [sn, s1_zero, ih]

theorem sn_eq_zero (n : Nat) : ∀ x, sn n x = 0#32 → x = 0#32 := by
  induction n with
  | zero => intro x h; exact h
  | succ n ih => intro x h; exact s1_eq_zero _ (ih _ h)

theorem sn_inj (n : Nat) (x y : BitVec 32) (h : sn n x = sn n y) : x = y := by
  have : sn n (x ^^^ y) = 0#32 := by rw [sn_xor, h, BitVec.xor_self]
  have := sn_eq_zero n _ this
  exact BitVec.xor_eq_zero_iff.1 this

theorem sn_add (m n : Nat) : ∀ x, sn (m + n) x = sn n (sn m x) := by
  induction m with
  | zero => intro x; simp [sn]
  | succ m ih => intro x; rw [Nat.succ_add]; simp only [sn]; exact ih _

/-- The register moved on by bits, the first one first. -/
def top (b : Bool) : BitVec 32 := if b then 0x80000000#32 else 0#32
def br : BitVec 32 → List Bool → BitVec 32
  | x, [] => x
  | x, b :: l => br (s1 (x ^^^ top b)) l

theorem top_xor (a b : Bool) : top (a ^^ b) = top a ^^^ top b := by cases a <;> cases b <;> decide

theorem br_xor : ∀ (l m : List Bool) (x y : BitVec 32), l.length = m.length → br (x ^^^ y) (List.zipWith (· ^^ ·) l m) = br x l ^^^ br y m
  | [], [], x, y, _ => rfl
  | a :: l, b :: m, x, y, h => by
    simp only [List.zipWith, br]
    have e : x ^^^ y ^^^ top (a ^^ b) = (x ^^^ top a) ^^^ (y ^^^ top b) := by
      rw [top_xor, BitVec.xor_assoc, BitVec.xor_assoc, ← BitVec.xor_assoc y, BitVec.xor_comm y, BitVec.xor_assoc]
    rw [e, s1_xor]
    exact br_xor l m _ _ (by simpa using h)
  | [], _ :: _, _, _, h => by simp at h
  | _ :: _, [], _, _, h => by simp at h

theorem br_append : ∀ (l m : List Bool) (x : BitVec 32), br x (l ++ m) = br (br x l) m
  | [], _, _ => rfl
  | _ :: l, m, _ => br_append l m _

theorem br_zeros (n : Nat) : ∀ x, br x (List.replicate n false) = sn n x := by
  induction n with
  | zero => intro x; rfl
  | succ n ih => intro x; simp only [List.replicate_succ, br, sn, top]; simpa using ih _

/-- Bits as the highest bits of a register. -/
def hi : List Bool → BitVec 32
  | [] => 0#32
  | b :: l => top b ^^^ (hi l >>> 1)

theorem hi_low : ∀ (l : List Bool) (i : Nat), i + l.length < 32 → (hi l).getLsbD i = false
  | [], i, _ => by simp [hi]
  | b :: l, i, h => by
    simp only [List.length_cons] at h
    have h2 := hi_low l (i + 1) (by omega)
    have h3 : (top b).getLsbD i = false := by
      unfold top
      cases b
      · simp
      · have : i < 31 := by omega
        have e : ∀ j, j < 31 → (0x80000000#32).getLsbD j = false := by decide
        exact e i this
    simp only [hi, BitVec.getLsbD_xor, BitVec.getLsbD_ushiftRight, h3, Nat.add_comm 1 i, h2]
    rfl

theorem s1_shr (y : BitVec 32) (h : y.getLsbD 0 = false) : s1 (y >>> 1) = y := by
  have hm : (y >>> 1).msb = false := by
    simp [BitVec.msb_eq_getLsbD_last]
  unfold s1
  rw [hm]
  simp only [Bool.false_eq_true, if_false]
  apply BitVec.eq_of_getLsbD_eq
  intro i hi
  simp only [BitVec.getLsbD_shiftLeft, BitVec.getLsbD_ushiftRight]
  by_cases h0 : i = 0
  · subst h0; simpa using h.symm
  · have : ¬ i < 1 := by omega
    simp [hi, this, show 1 + (i - 1) = i by omega]

theorem br_hi : ∀ (l : List Bool) (x : BitVec 32), l.length ≤ 32 → br x l = sn l.length (x ^^^ hi l)
  | [], x, _ => by simp [br, sn, hi]
  | b :: l, x, h => by
    simp only [List.length_cons] at h
    simp only [br, List.length_cons, sn, hi]
    rw [br_hi l _ (by omega)]
    congr 1
    have e : x ^^^ (top b ^^^ hi l >>> 1) = (x ^^^ top b) ^^^ (hi l >>> 1) := by rw [BitVec.xor_assoc]
    rw [e, s1_xor (x ^^^ top b), s1_shr (hi l) (hi_low l 0 (by omega))]

theorem hi_zero : ∀ (l : List Bool), l.length ≤ 32 → hi l = 0#32 → ∀ b ∈ l, b = false
  | [], _, _ => by simp
  | a :: l, hl, h => by
    simp only [List.length_cons] at hl
    simp only [hi] at h
    have ha : a = false := by
      have h0 := congrArg (fun z : BitVec 32 => z.getLsbD 31) h
      cases a
      · rfl
      · simp [top] at h0
    subst ha
    have h' : hi l >>> 1 = 0#32 := by simpa [top] using h
    have h2 : hi l = 0#32 := by
      have := s1_shr (hi l) (hi_low l 0 (by omega))
      rw [h', s1_zero] at this
      exact this.symm
    intro b hb
    rcases List.mem_cons.1 hb with rfl | hb
    · rfl
    · exact hi_zero l (by omega) h2 b hb

/-- Bits that are not all 0, and lie within 32: the register is another one. -/
theorem burst (a c : Nat) (w : List Bool) (hw : w.length ≤ 32) (h : br 0#32 (List.replicate a false ++ w ++ List.replicate c false) = 0#32) : ∀ b ∈ w, b = false := by
  rw [br_append, br_append, br_zeros, br_zeros, sn_zero] at h
  have h1 := sn_eq_zero _ _ h
  rw [br_hi w _ hw, BitVec.zero_xor] at h1
  exact hi_zero w hw (sn_eq_zero _ _ h1)


theorem sn_low : ∀ (n : Nat) (x : BitVec 32), (∀ i, 32 - n ≤ i → x.getLsbD i = false) → sn n x = x <<< n
  | 0, x, _ => by simp [sn]
  | n + 1, x, h => by
    by_cases hn : 32 ≤ n
    · have hx : x = 0#32 := by
        apply BitVec.eq_of_getLsbD_eq
        intro i hi
        rw [h i (by omega)]
        simp
      subst hx
      rw [sn_zero]
      simp
    have hm : x.msb = false := by
      rw [BitVec.msb_eq_getLsbD_last]
      exact h 31 (by omega)
    have e : s1 x = x <<< 1 := by unfold s1; rw [hm]; rfl
    simp only [sn, e]
    rw [sn_low n (x <<< 1) (fun i hi => by
      rw [BitVec.getLsbD_shiftLeft]
      by_cases h0 : i < 1
      · simp [h0]
      · rw [h (i - 1) (by omega)]; simp)]
    rw [Nat.add_comm n 1, BitVec.shiftLeft_add]

/-- A byte as the highest eight bits. -/
def bb (b : UInt8) : BitVec 32 := (b.toBitVec.setWidth 32) <<< 24
/-- The register moved on by a byte. -/
def on (x : BitVec 32) (b : UInt8) : BitVec 32 := sn 8 (x ^^^ bb b)
/-- What the table holds. -/
def tab (b : BitVec 8) : BitVec 32 := sn 8 ((b.setWidth 32) <<< 24)

theorem on_tab (x : BitVec 32) (b : UInt8) : on x b = (x <<< 8) ^^^ tab ((x >>> 24).setWidth 8 ^^^ b.toBitVec) := by
  unfold on tab
  have e : x ^^^ bb b = (x &&& 0x00ffffff#32) ^^^ ((((x >>> 24).setWidth 8 ^^^ b.toBitVec).setWidth 32) <<< 24) := by
    apply BitVec.eq_of_getLsbD_eq
    intro i hi
    have hmask : (0x00ffffff#32).getLsbD i = decide (i < 24) := by
      have : ∀ j : Fin 32, (0x00ffffff#32).getLsbD j.val = decide (j.val < 24) := by decide
      exact this ⟨i, hi⟩
    simp only [bb, BitVec.getLsbD_xor, BitVec.getLsbD_and, BitVec.getLsbD_shiftLeft, BitVec.getLsbD_setWidth, BitVec.getLsbD_ushiftRight, hmask]
    by_cases h : i < 24
    · simp [h]
    · have h1 : i - 24 < 8 := by omega
      have h2 : i - 24 < 32 := by omega
      have h3 : 24 + (i - 24) = i := by omega
      simp [h, hi, h1, h2, h3]
  rw [e, sn_xor]
  congr 1
  rw [sn_low 8 _ (fun i hi => by
    rw [BitVec.getLsbD_and]
    have hmask : (0x00ffffff#32).getLsbD i = false := by
      by_cases h : i < 32
      · have : ∀ j : Fin 32, 24 ≤ j.val → (0x00ffffff#32).getLsbD j.val = false := by decide
        exact this ⟨i, h⟩ hi
      · exact BitVec.getLsbD_of_ge _ _ (by omega)
    rw [hmask, Bool.and_false])]
  apply BitVec.eq_of_getLsbD_eq
  intro i hi
  simp only [BitVec.getLsbD_shiftLeft, BitVec.getLsbD_and]
  by_cases h : i < 8
  · simp [h]
  · have hmask : (0x00ffffff#32).getLsbD (i - 8) = true := by
      have : ∀ j : Fin 24, (0x00ffffff#32).getLsbD j.val = true := by decide
      exact this ⟨i - 8, by omega⟩
    simp [hi, h, hmask]

/-- The sum of bytes. -/
def reg (l : List UInt8) : BitVec 32 := l.foldl on 0xffffffff#32
def sum (l : List UInt8) : BitVec 32 := ~~~ reg l

/-! Bits of bytes. -/
def bitsB (b : UInt8) : List Bool := [b.toBitVec.getLsbD 7, b.toBitVec.getLsbD 6, b.toBitVec.getLsbD 5, b.toBitVec.getLsbD 4, b.toBitVec.getLsbD 3, b.toBitVec.getLsbD 2, b.toBitVec.getLsbD 1, b.toBitVec.getLsbD 0]
def bitsL (l : List UInt8) : List Bool := l.flatMap bitsB
theorem bitsB_len (b : UInt8) : (bitsB b).length = 8 := rfl
theorem bitsL_len (l : List UInt8) : (bitsL l).length = 8 * l.length := by
  unfold bitsL
  induction l with
  | nil => rfl
  | cons a l ih => rw [List.flatMap_cons, List.length_append, ih, bitsB_len, List.length_cons]; omega
theorem hi_bits (b : UInt8) : hi (bitsB b) = bb b := by
  have : ∀ v : BitVec 8, hi [v.getLsbD 7, v.getLsbD 6, v.getLsbD 5, v.getLsbD 4, v.getLsbD 3, v.getLsbD 2, v.getLsbD 1, v.getLsbD 0] = (v.setWidth 32) <<< 24 := by decide +kernel
  exact this b.toBitVec
theorem on_br (x : BitVec 32) (b : UInt8) : on x b = br x (bitsB b) := by
  rw [br_hi _ _ (by rw [bitsB_len]; omega), bitsB_len, hi_bits]
  rfl
theorem foldl_br : ∀ (l : List UInt8) (x : BitVec 32), l.foldl on x = br x (bitsL l)
  | [], _ => rfl
  | b :: l, x => by
    rw [List.foldl_cons, foldl_br l, on_br]
    unfold bitsL
    rw [List.flatMap_cons, br_append]

/-- A register's four bytes, the highest first. -/
def fourB (x : BitVec 32) : List UInt8 := [⟨(x >>> 24).setWidth 8⟩, ⟨(x >>> 16).setWidth 8⟩, ⟨(x >>> 8).setWidth 8⟩, ⟨x.setWidth 8⟩]
theorem hi_append : ∀ (l m : List Bool), hi (l ++ m) = hi l ^^^ (hi m >>> l.length)
  | [], m => by simp [hi]
  | b :: l, m => by
    simp only [List.cons_append, hi, hi_append l m, List.length_cons]
    rw [BitVec.ushiftRight_xor_distrib, ← BitVec.shiftRight_add, BitVec.xor_assoc]
theorem hi_four (x : BitVec 32) : hi (bitsL (fourB x)) = x := by
  simp only [bitsL, fourB, List.flatMap_cons, List.flatMap_nil, List.append_nil]
  rw [hi_append, hi_append, hi_append, hi_bits, hi_bits, hi_bits, hi_bits]
  simp only [bitsB_len]
  apply BitVec.eq_of_getLsbD_eq
  intro i hi
  simp only [bb, BitVec.getLsbD_xor, BitVec.getLsbD_ushiftRight, BitVec.getLsbD_shiftLeft, BitVec.getLsbD_setWidth]
  by_cases h1 : i < 8
  · have a1 : 8 + i < 24 := by omega
    have a2 : 8 + (8 + i) < 24 := by omega
    have a3 : 8 + (8 + (8 + i)) < 32 := by omega
    have a4 : ¬ 8 + (8 + (8 + i)) < 24 := by omega
    have a5 : 8 + (8 + (8 + i)) - 24 = i := by omega
    simp [h1, a1, a2, a3, a4, a5, show i < 24 by omega, show i < 32 by omega]
  · by_cases h2 : i < 16
    · simp [show i < 24 by omega, show 8 + i < 24 by omega, show ¬ 8 + (8 + i) < 24 by omega, show 8 + (8 + i) < 32 by omega, show ¬ 8 + (8 + (8 + i)) < 32 by omega, show 8 + (8 + i) - 24 = i - 8 by omega, show i - 8 < 8 by omega, show i - 8 < 32 by omega, show 8 + (i - 8) = i by omega]
    · by_cases h3 : i < 24
      · simp [h3, show ¬ 8 + i < 24 by omega, show 8 + i < 32 by omega, show ¬ 8 + (8 + i) < 32 by omega, show ¬ 8 + (8 + (8 + i)) < 32 by omega, show 8 + i - 24 = i - 16 by omega, show i - 16 < 8 by omega, show i - 16 < 32 by omega, show 16 + (i - 16) = i by omega]
      · simp [h3, hi, show ¬ 8 + i < 32 by omega, show ¬ 8 + (8 + i) < 32 by omega, show ¬ 8 + (8 + (8 + i)) < 32 by omega, show i - 24 < 8 by omega, show i - 24 < 32 by omega, show 24 + (i - 24) = i by omega]
theorem fourB_len (x : BitVec 32) : (fourB x).length = 4 := rfl
/-- Behind bytes and their sum stands a register that does not go by the bytes. -/
theorem sealed (l : List UInt8) (x : BitVec 32) : br 0xffffffff#32 (bitsL (l ++ fourB x)) = sn 32 (reg l ^^^ x) := by
  unfold bitsL
  rw [List.flatMap_append, br_append]
  show br (br _ (bitsL l)) (bitsL (fourB x)) = _
  rw [← foldl_br l, br_hi (bitsL (fourB x)) _ (by rw [bitsL_len, fourB_len]; omega), bitsL_len, fourB_len, hi_four]
  rfl
theorem fits_iff (l : List UInt8) (x : BitVec 32) : br 0xffffffff#32 (bitsL (l ++ fourB x)) = sn 32 0xffffffff#32 ↔ x = sum l := by
  rw [sealed]
  constructor
  · intro h
    have h1 := sn_inj _ _ _ h
    unfold sum
    have : x = reg l ^^^ (reg l ^^^ x) := by rw [← BitVec.xor_assoc, BitVec.xor_self, BitVec.zero_xor]
    rw [this, h1]
    rw [show (0xffffffff#32) = BitVec.allOnes 32 by decide, BitVec.xor_allOnes]
  · rintro rfl
    unfold sum
    congr 1
    rw [show (0xffffffff#32) = BitVec.allOnes 32 by decide, ← BitVec.xor_allOnes, ← BitVec.xor_assoc, BitVec.xor_self, BitVec.zero_xor]

/-- Bits turned within 32: what fitted does not fit any more, or nothing was turned. -/
theorem turned (s t : List UInt8) (a c : Nat) (w : List Bool) (hw : w.length ≤ 32) (he : bitsL t = List.zipWith (· ^^ ·) (bitsL s) (List.replicate a false ++ w ++ List.replicate c false)) (hn : a + w.length + c = 8 * s.length)
    (h1 : br 0xffffffff#32 (bitsL s) = sn 32 0xffffffff#32) (h2 : br 0xffffffff#32 (bitsL t) = sn 32 0xffffffff#32) : bitsL t = bitsL s := by
  have hlen : (bitsL s).length = (List.replicate a false ++ w ++ List.replicate c false).length := by
    rw [bitsL_len]
    simp
    omega
  have hx := br_xor (bitsL s) (List.replicate a false ++ w ++ List.replicate c false) 0xffffffff#32 0#32 hlen
  rw [BitVec.xor_zero, ← he, h2, h1] at hx
  have h0 : br 0#32 (List.replicate a false ++ w ++ List.replicate c false) = 0#32 := by
    have := congrArg (fun z => sn 32 0xffffffff#32 ^^^ z) hx
    simp only [BitVec.xor_self] at this
    rw [← BitVec.xor_assoc, BitVec.xor_self, BitVec.zero_xor] at this
    exact this.symm
  have hz := burst a c w hw h0
  have hwz : w = List.replicate w.length false := List.eq_replicate_of_mem hz
  rw [he]
  rw [hwz, List.replicate_append_replicate, List.replicate_append_replicate, hn, ← bitsL_len]
  generalize bitsL s = q
  induction q with
  | nil => rfl
  | cons b q ih => rw [List.length_cons, List.replicate_succ, List.zipWith_cons_cons, ih, Bool.xor_false]
theorem bitsB_inj {a b : UInt8} (h : bitsB a = bitsB b) : a = b := by
  have ha := hi_bits a
  have hb := hi_bits b
  rw [h, hb] at ha
  have : a.toBitVec = b.toBitVec := by
    apply BitVec.eq_of_getLsbD_eq
    intro i hi
    have := congrArg (fun z : BitVec 32 => z.getLsbD (24 + i)) ha
    simp only [bb, BitVec.getLsbD_shiftLeft, BitVec.getLsbD_setWidth] at this
    simpa [show 24 + i < 32 by omega, show i < 32 by omega, show ¬ 24 + i < 24 by omega] using this.symm
  exact UInt8.eq_of_toBitVec_eq this
theorem bitsL_inj : ∀ {l m : List UInt8}, bitsL l = bitsL m → l = m
  | [], [], _ => rfl
  | [], b :: m, h => by
    have := congrArg List.length h
    rw [bitsL_len, bitsL_len, List.length_cons, List.length_nil] at this
    omega
  | a :: l, [], h => by
    have := congrArg List.length h
    rw [bitsL_len, bitsL_len, List.length_cons, List.length_nil] at this
    omega
  | a :: l, b :: m, h => by
    unfold bitsL at h
    rw [List.flatMap_cons, List.flatMap_cons] at h
    obtain ⟨h1, h2⟩ := List.append_inj h (by rw [bitsB_len, bitsB_len])
    rw [bitsB_inj h1, bitsL_inj h2]

/-! The program's numbers. -/
theorem wrap_u32 (n : Int) (h0 : 0 ≤ n) (h1 : n < 4294967296) : IntKind.u32.wrap n = n := by
  show n % 4294967296 = n
  omega
theorem ofInt_toNat (x : BitVec 32) : BitVec.ofInt 32 (x.toNat : Int) = x := by
  rw [BitVec.ofInt_natCast, BitVec.ofNat_toNat, BitVec.setWidth_eq]
theorem xor32 (x y : BitVec 32) : Go.bits .xor .u32 (x.toNat : Int) (y.toNat : Int) = ((x ^^^ y).toNat : Int) := by
  show IntKind.u32.wrap (((BitVec.ofInt 32 (x.toNat : Int)) ^^^ (BitVec.ofInt 32 (y.toNat : Int))).toNat : Int) = _
  rw [ofInt_toNat, ofInt_toNat]
  exact wrap_u32 _ (by omega) (by have := (x ^^^ y).isLt; omega)
theorem toNat_lt32 (x : BitVec 32) : (x.toNat : Int) < 4294967296 := by have := x.isLt; omega
theorem shl1_nat (x : BitVec 32) : (((x <<< 1).toNat : Nat) : Int) = (x.toNat : Int) * 2 % 4294967296 := by
  rw [BitVec.toNat_shiftLeft, Nat.shiftLeft_eq]
  have := x.isLt
  omega
theorem msb_nat (x : BitVec 32) : (x.toNat : Int) / 2147483648 = if x.msb then 1 else 0 := by
  have h := x.isLt
  have hm : x.msb = decide (2 ^ 31 ≤ x.toNat) := by
    rw [BitVec.msb_eq_decide]
  rw [hm]
  by_cases q : 2 ^ 31 ≤ x.toNat
  · simp [q]; omega
  · simp [q]; omega
/-- One step, as Make takes it. -/
theorem step_make (x : BitVec 32) : Go.bits .xor .u32 ((x.toNat : Int) * 2 % 4294967296) (79764919 * ((x.toNat : Int) / 2147483648) % 4294967296) = ((s1 x).toNat : Int) := by
  rw [msb_nat, ← shl1_nat]
  unfold s1
  cases hx : x.msb
  · simp only [Bool.false_eq_true, if_false]
    have := xor32 (x <<< 1) 0#32
    rw [BitVec.xor_zero] at this
    exact this
  · simp only [if_true]
    exact xor32 (x <<< 1) 0x04c11db7#32
theorem step_make2 (x : BitVec 32) (v : Int) (h : v = (x.toNat : Int)) : Go.bits .xor .u32 (v * 2 % 4294967296) (79764919 * (v / 2147483648) % 4294967296) = ((s1 x).toNat : Int) := by rw [h, step_make]
theorem step_make3 (x : BitVec 32) (v : Int) (h : v = (x.toNat : Int)) : Go.bits .xor .u32 (v * 2 % 4294967296) (79764919 * (v / 2147483648)) = ((s1 x).toNat : Int) := by
  have e : 79764919 * (v / 2147483648) % 4294967296 = 79764919 * (v / 2147483648) := by have := toNat_lt32 x; omega
  rw [← e, step_make2 x v h]
end Go.Proofs.YtjbnihaekgmhlaaDoor.PolCrc
namespace Go.Proofs.YtjbnihaekgmhlaaDoor
open Go.RowKit Pr Go.Proofs.YtjbnihaekgmhlaaDoorW.PrintWords
set_option linter.unusedVariables false
set_option linter.unusedSimpArgs false

def tabI (k : Nat) : Int := ((PolCrc.tab (BitVec.ofNat 8 k)).toNat : Int)
/-- The table, its first n entries made. -/
def tabN (n : Nat) : Array Value := ((List.range 256).map fun k => if k < n then Value.int .u32 (tabI k) else .int .u32 0).toArray
theorem tabN_size (n : Nat) : (tabN n).size = 256 := by simp [tabN]
theorem tabN_zero : Array.replicate 256 (Value.int .u32 0) = tabN 0 := by
  apply Array.ext
  · simp [tabN]
  · intro i h1 h2
    simp [tabN]
theorem tabN_next (n : Nat) (h : n < 256) : (tabN n).setIfInBounds n (.int .u32 (tabI n)) = tabN (n + 1) := by
  apply Array.ext
  · simp [tabN]
  · intro i h1 h2
    have hi : i < 256 := by rw [tabN_size] at h2; exact h2
    rw [Array.getElem_setIfInBounds (by rw [tabN_size]; exact hi)]
    simp only [tabN, List.getElem_toArray, List.getElem_map, List.getElem_range]
    by_cases q : n = i
    · subst q
      rw [if_pos rfl, if_pos (by omega)]
    · rw [if_neg q]
      by_cases q2 : i < n
      · rw [if_pos q2, if_pos (by omega)]
      · rw [if_neg q2, if_neg (by omega)]
theorem tabN_at (k : Nat) (h : k < 256) : (tabN 256)[k]? = some (.int .u32 (tabI k)) := by
  rw [Array.getElem?_eq_getElem (by rw [tabN_size]; exact h)]
  simp only [tabN, List.getElem_toArray, List.getElem_map, List.getElem_range]
  rw [if_pos h]
theorem tabN_new (k : Nat) (h : k < 256) : (tabN k)[k]? = some (.int .u32 0) := by
  rw [Array.getElem?_eq_getElem (by rw [tabN_size]; exact h)]
  simp only [tabN, List.getElem_toArray, List.getElem_map, List.getElem_range]
  rw [if_neg (by omega)]
theorem tabN_one (n : Nat) : (tabN n).all (·.oneCell') = true := by
  rw [Array.all_eq_true]
  intro i hi
  simp only [tabN, List.getElem_toArray, List.getElem_map, List.getElem_range]
  split <;> rfl
set_option maxRecDepth 100000 in
theorem tab_info : (Tryd.prog.info? 27).map (fun i => (i.zero, i.size)) = some (some (.agg (Array.replicate 256 (.int .u32 0))), 256) := by kernel_rfl
theorem tab_und : Tryd.prog.underlying 27 = some (.array 256 25) := by kernel_rfl
theorem tab_size : (Tryd.prog.info? 27).map (·.size) = some 256 := by
  have h := tab_info
  cases hq : Tryd.prog.info? 27 with
  | none => rw [hq] at h; simp at h
  | some i => rw [hq] at h; simp only [Option.map_some, Option.some.injEq, Prod.mk.injEq] at h; simp [h.2]
theorem run_alloc_tab {o : Oper} {a : Act} {w : World} (ho : o.op = .alloc 27) : (execOp a.eval o).run Tryd.prog w = .ok (.value (.pointer (some ⟨w.heap.size, 0, none⟩))) (w.alloc (.cells (tabN 0) 27 (0, 0))) := by
  have h := tab_info
  cases hq : Tryd.prog.info? 27 with
  | none => rw [hq] at h; simp at h
  | some i =>
    rw [hq] at h
    simp only [Option.map_some, Option.some.injEq, Prod.mk.injEq] at h
    rw [← tabN_zero]
    unfold execOp
    simp [ho, Instr.alloc, zeroValue, typeInfo, hq, h.1, newVar, Value.cells, newRow]

/-! crc.Make. -/
theorem tabI_sn (k : Nat) : tabI k = ((PolCrc.sn 8 (((BitVec.ofNat 8 k).setWidth 32) <<< 24)).toNat : Int) := rfl
theorem tab_start (k : Nat) (h : k < 256) : (k : Int) * (16777216 : Int) = (((((BitVec.ofNat 8 k).setWidth 32) <<< 24 : BitVec 32).toNat : Nat) : Int) := by
  rw [BitVec.toNat_shiftLeft, BitVec.toNat_setWidth, BitVec.toNat_ofNat, Nat.shiftLeft_eq]
  omega
theorem sn_succ' (n : Nat) (x : BitVec 32) : PolCrc.sn (n + 1) x = PolCrc.s1 (PolCrc.sn n x) := by
  have := PolCrc.sn_add n 1 x
  simpa [PolCrc.sn] using this
theorem sn_bd (n : Nat) (x : BitVec 32) : 0 ≤ ((PolCrc.sn n x).toNat : Int) ∧ ((PolCrc.sn n x).toNat : Int) < 4294967296 := ⟨by omega, PolCrc.toNat_lt32 _⟩
set_option maxHeartbeats 8000000 in
set_option maxRecDepth 100000 in
theorem Make_any (w : World) : Calls Tryd.prog 15 #[] w fun e w' => e = .returned (.agg (tabN 256)) ∧ Below w.heap.size w w' := by
  go_enter Tryd.func15, Tryd.ntmps15
  go_wp2_with (first | ((with_reducible refine gate_dst (N := 0) rfl ?_); refine box_event ?hg (N := 0) ?hd (cs := tabN 0) (t := 27) ?hr ?_; (case hd => rfl); (case hg => rfl); (case hr => exact run_alloc_tab rfl); intro gq hg_ w1 hbox hb3; have HGgq := Lib.hid hg_; have HBgq := Lib.hid hb3; have HXgq := Lib.hid hbox; clear hg_ hb3 hbox) | ((with_reducible refine gate_dst (N := 1) rfl ?_); refine box_event ?hg (N := 1) ?hd (cs := tabN 0) (t := 27) ?hr ?_; (case hd => rfl); (case hg => rfl); (case hr => exact run_alloc_tab rfl); intro gt hg_ w2 hbox hb3; have HGgt := Lib.hid hg_; have HBgt := Lib.hid hb3; have HXgt := Lib.hid hbox; clear hg_ hb3 hbox))
  have B2 := Lib.hid (below_step HBgq.out HBgt.out)
  have Q2 := Lib.hid (blk_below HXgq.out HBgt.out)
  have q3 : gq ≠ gt := by rw [HGgt.out]; exact Nat.ne_of_lt (blk_lt HXgq.out)
  have q4 : w.heap.size ≤ gt := by rw [HGgt.out]; exact HBgq.out.size
  have q5 : w.heap.size ≤ gq := by rw [HGgq.out]; exact Nat.le_refl _
  have HQ3 := Lib.hid q3
  have HQ4 := Lib.hid q4
  have HQ5 := Lib.hid q5
  clear q3 q4 q5
  go_loopw [5] (fun i wr => ∃ k : Nat, k ≤ 256 ∧ i = .int .i64 k ∧ Hid (wr.heap[gt]? = some (.cells (tabN k) 27 (0, 0))) ∧ Hid (wr.heap[gq]? = some (.cells (tabN 0) 27 (0, 0))) ∧ Hid (Below w.heap.size w wr)) (fun i _ => 256 - (intOf i).toNat)
  case atStart => exact ⟨0, by omega, rfl, HXgt, Q2, B2⟩
  case round =>
    obtain ⟨k, hk, rfl, HT, HQ, HB⟩ := hrel
    by_cases hlt : k < 256
    · have hs := tab_start k hlt
      have HS := Lib.hid hs
      clear hs
      go_wp2
      obtain ⟨wo, rfl⟩ : ∃ wo : World, wo = wr := ⟨_, rfl⟩
      obtain ⟨X, hX⟩ : ∃ X : BitVec 32, ((BitVec.ofNat 8 k).setWidth 32) <<< 24 = X := ⟨_, rfl⟩
      have HX := Lib.hid hX
      clear hX
      go_loop [3, 11] (fun x i => ∃ j : Nat, j ≤ 8 ∧ i = .int .i64 j ∧ x = .int .u32 ((PolCrc.sn j X).toNat : Int)) (fun _ i => 8 - (intOf i).toNat)
      case atStart => exact ⟨0, by omega, rfl, by rw [HS.out, HX.out]; rfl⟩
      case round =>
        obtain ⟨j, hj, rfl, rfl⟩ := hrel
        by_cases hlj : j < 8
        · obtain ⟨v, hv⟩ : ∃ v : Int, ((PolCrc.sn j X).toNat : Int) = v := ⟨_, rfl⟩
          have hv0 : 0 ≤ v := by omega
          have hv1 : v < 4294967296 := by have := PolCrc.toNat_lt32 (PolCrc.sn j X); omega
          rw [hv]
          have HV := Lib.hid hv
          clear hv
          go_wp2
          go_round
          case rel => exact ⟨j + 1, by omega, by go_num, by rw [sn_succ', ← PolCrc.step_make3 _ v HV.out.symm]⟩
          case measure => simp [intOf]; omega
        · obtain rfl : j = 8 := by omega
          have e8 : ((PolCrc.sn 8 X).toNat : Int) = tabI k := by rw [tabI_sn, HX.out]
          rw [e8]
          clear e8
          have ck := (blk_cell HT.out k).trans (tabN_new k hlt)
          have zk := blk_frozen HT.out k
          go_wp2
          go_roundw
          case rel =>
            refine ⟨k + 1, by omega, by go_num, Lib.hid ?_, Lib.hid (blk_far (p := ⟨gt, k, none⟩) HQ.out HQ3.out _), Lib.hid (HB.out.setCell (p := ⟨gt, k, none⟩) HQ4.out _)⟩
            rw [← tabN_next k hlt]
            exact blk_set HT.out k _
          case measure => simp [intOf]; omega
    · obtain rfl : k = 256 := by omega
      go_wp2_with (first | ((with_reducible refine gate_dst (N := 25) rfl ?_); refine wpList_load_row rfl 27 _ rfl gt rfl 27 (tabN 256) (0, 0) _ HT.out tab_und rfl (by rw [tab_size, tabN_size]) ?_) | (refine wpList_store_row rfl 27 _ _ rfl gq (tabN 256) rfl rfl 27 (tabN 0) HQ.out (by rw [tab_size, tabN_size]) (by rw [tabN_size, tabN_size]) (tabN_one _) ?_))
      refine bodyPost_ret (results_cell_row rfl _ _ gq 27 (tabN 256) (0, 0) _ rfl (setRow_heap wr gq _ _ _ _ HQ.out) tab_und rfl (by rw [tab_size, tabN_size])) rfl ?_
      exact ⟨rfl, below_setRow HB.out HQ5.out _⟩
end Go.Proofs.YtjbnihaekgmhlaaDoor
namespace Go.Proofs.YtjbnihaekgmhlaaDoor
open Go.RowKit Pr Go.Proofs.YtjbnihaekgmhlaaDoorW.PrintWords
set_option linter.unusedVariables false
set_option linter.unusedSimpArgs false

/-- Of how many cells. -/
def cellsI (n : Int) : Int := max n 0 / 48 + (max n 0 % 48 + 7) / 48 + 1
theorem wrapS (x : Int) (h0 : 0 ≤ x) (h1 : x ≤ 4611686018427387904) : wrap64 x = x := by unfold wrap64; omega
def frame_Cells.f (a0 : Int) : Option Int := if a0 ≤ 4611686018427387904 then some (cellsI a0) else none
set_option maxHeartbeats 4000000 in
theorem frame_Cells.calls (a0 : Int) (r : Int) (w : World) (h : frame_Cells.f a0 = some r) :
    Calls Tryd.prog 30 #[.int .i64 a0] w fun e w' => e = .returned (.int .i64 r) ∧ Below w.heap.size w w' := by
  unfold frame_Cells.f at h
  split at h
  · rename_i hb
    have hr := Option.some.inj h
    clear h
    have hc : cellsI a0 = max a0 0 / 48 + (max a0 0 % 48 + 7) / 48 + 1 := rfl
    rw [hc] at hr
    obtain ⟨m, hm⟩ : ∃ m, max a0 0 = m := ⟨_, rfl⟩
    rw [hm] at hr
    have h0 : 0 ≤ m := by omega
    have h1 : m ≤ 4611686018427387904 := by omega
    have HM := Lib.hid hm
    have HR := Lib.hid hr
    clear hc hm hr hb
    go_enter Tryd.func30, Tryd.ntmps30
    go_wp2
    all_goals
      go_ret
      refine ⟨congrArg (fun z => Ending.returned (.int .i64 z)) ?_, Below.refl _ _⟩
      have hm := HM.out
      have hr := HR.out
      clear HM HR
    · obtain rfl : m = 0 := by omega
      rw [wrapS 0 (by omega) (by omega), wrapS 0 (by omega) (by omega), wrapS (0 + 1) (by omega) (by omega)]
      omega
    · obtain rfl : m = a0 := by omega
      rw [Int.tdiv_eq_ediv_of_nonneg (by omega), wrapS (m / 48) (by omega) (by omega), wrapS (m / 48 + (m % 48 + 8 - 1) / 48) (by omega) (by omega), wrapS (m / 48 + (m % 48 + 8 - 1) / 48 + 1) (by omega) (by omega)]
      omega
  · simp at h
end Go.Proofs.YtjbnihaekgmhlaaDoor
namespace Go.Proofs.YtjbnihaekgmhlaaDoor
open Go.RowKit Pr Go.Proofs.YtjbnihaekgmhlaaDoorW.PrintWords
set_option linter.unusedVariables false
set_option linter.unusedSimpArgs false

/-- A table lies at a block. -/
def IsTab (w : World) (g : Nat) : Prop := ∃ t : TypeId, w.heap[g]? = some (.cells (tabN 256) t (0, 0))
theorem IsTab.below {w w1 : World} {g : Nat} (h : IsTab w g) (hb : Below w.heap.size w w1) : IsTab w1 g := h.elim fun t q => ⟨t, blk_below q hb⟩
theorem IsTab.cell {w : World} {g : Nat} (h : IsTab w g) (k : Nat) (hk : k < 256) : w.cell? ⟨g, k, none⟩ = some (.int .u32 (tabI k)) := h.elim fun t q => (blk_cell q k).trans (tabN_at k hk)
theorem xor8 (x y : BitVec 8) : Go.bits .xor .u8 (x.toNat : Int) (y.toNat : Int) = ((x ^^^ y).toNat : Int) := by
  have e : ∀ z : BitVec 8, BitVec.ofInt 8 (z.toNat : Int) = z := fun z => by rw [BitVec.ofInt_natCast, BitVec.ofNat_toNat, BitVec.setWidth_eq]
  show ((((BitVec.ofInt 8 (x.toNat : Int)) ^^^ (BitVec.ofInt 8 (y.toNat : Int))).toNat : Int) % 256) = _
  rw [e, e]
  have := (x ^^^ y).isLt
  omega
/-- Where a byte leads in the table. -/
def idxN (x : BitVec 32) (b : UInt8) : Nat := ((x >>> 24).setWidth 8 ^^^ b.toBitVec).toNat
theorem idxN_lt (x : BitVec 32) (b : UInt8) : idxN x b < 256 := (BitVec.isLt _)
theorem idx_eq (x : BitVec 32) (b : UInt8) : Go.bits .xor .u8 ((x.toNat : Int) / 16777216) (b.toNat : Int) = (idxN x b : Int) := by
  have h1 : (x.toNat : Int) / (16777216 : Int) = ((((x >>> 24).setWidth 8 : BitVec 8).toNat : Nat) : Int) := by
    rw [BitVec.toNat_setWidth, BitVec.toNat_ushiftRight, Nat.shiftRight_eq_div_pow]
    have := x.isLt
    omega
  rw [h1]
  exact xor8 _ b.toBitVec
theorem on_eq (x : BitVec 32) (b : UInt8) : Go.bits .xor .u32 ((x.toNat : Int) * 256 % 4294967296) (tabI (idxN x b)) = ((PolCrc.on x b).toNat : Int) := by
  rw [PolCrc.on_tab]
  have h1 : (x.toNat : Int) * (256 : Int) % (4294967296 : Int) = (((x <<< 8).toNat : Nat) : Int) := by
    rw [BitVec.toNat_shiftLeft, Nat.shiftLeft_eq]
    omega
  have h2 : BitVec.ofNat 8 (idxN x b) = (x >>> 24).setWidth 8 ^^^ b.toBitVec := by
    unfold idxN
    rw [BitVec.ofNat_toNat, BitVec.setWidth_eq]
  unfold tabI
  rw [h1, h2]
  exact PolCrc.xor32 _ _
def regL (l : List UInt8) : BitVec 32 := PolCrc.reg l
theorem reg_snoc (l : List UInt8) (b : UInt8) : PolCrc.reg (l ++ [b]) = PolCrc.on (PolCrc.reg l) b := by
  unfold PolCrc.reg
  rw [List.foldl_append]
  rfl
theorem take_snoc8 (s : ByteArray) (k : Nat) (h : k < s.size) : s.data.toList.take (k + 1) = s.data.toList.take k ++ [s[k]] := by
  rw [List.take_succ_eq_append_getElem (by simpa using h)]
  rfl
theorem not_eq (x : BitVec 32) : Go.bits .xor .u32 IntKind.u32.max (x.toNat : Int) = (((~~~ x).toNat : Nat) : Int) := by
  have := PolCrc.xor32 (BitVec.allOnes 32) x
  rw [BitVec.allOnes_xor] at this
  exact this
set_option maxHeartbeats 8000000 in
set_option maxRecDepth 100000 in
theorem Sum_any (s : ByteArray) (g : Nat) (ad : Addr) (w : World) (hs : s.size ≤ 140737488355328) (hT : IsTab w g) (hc : w.cell? ad = some (.string s)) :
    Calls Tryd.prog 74 #[.pointer (some ⟨g, 0, none⟩), .slice (some ad) 1 1] w fun e w' => e = .returned (.int .u32 ((PolCrc.sum s.data.toList).toNat : Int)) ∧ ∃ n, w' = w.drewN n := by
  have HT := Lib.hid hT
  have HC := Lib.hid hc
  clear hT hc
  go_enter Tryd.func74, Tryd.ntmps74
  go_wp2
  go_loopw [5, 11] (fun x i wr => ∃ (k m : Nat), k ≤ 1 ∧ i = .int .i64 k ∧ x = .int .u32 ((PolCrc.reg (if k = 0 then [] else s.data.toList)).toNat : Int) ∧ wr = w.drewN m) (fun _ i _ => 1 - (intOf i).toNat)
  case atStart => exact ⟨0, 0, by omega, rfl, rfl, rfl⟩
  case round =>
    obtain ⟨k, m, hk, rfl, rfl, rfl⟩ := hrel
    by_cases hlt : k < 1
    · obtain rfl : k = 0 := by omega
      have hc := HC.out
      go_wp2
      clear hc
      go_loopw [5, 17] (fun x i wr => ∃ (j q : Nat), j ≤ s.size ∧ i = .int .i64 j ∧ x = .int .u32 ((PolCrc.reg (s.data.toList.take j)).toNat : Int) ∧ wr = w.drewN q) (fun _ i _ => s.size - (intOf i).toNat)
      case atStart => exact ⟨0, m, by omega, rfl, by rw [List.take_zero], rfl⟩
      case round =>
        obtain ⟨j, q, hj, rfl, rfl, rfl⟩ := hrel
        by_cases hlj : j < s.size
        · obtain ⟨X, hX⟩ : ∃ X, PolCrc.reg (s.data.toList.take j) = X := ⟨_, rfl⟩
          have hX2 : PolCrc.reg (s.data.toList.take (j + 1)) = PolCrc.on X s[j] := by rw [take_snoc8 s j hlj, reg_snoc, hX]
          have hi := idx_eq X s[j]
          have ho := on_eq X s[j]
          have hlI := idxN_lt X s[j]
          have hck := HT.out.cell (idxN X s[j]) hlI
          obtain ⟨I, hI⟩ : ∃ I, idxN X s[j] = I := ⟨_, rfl⟩
          rw [hI] at hi ho hlI hck
          obtain ⟨v, hv⟩ : ∃ v : Int, (X.toNat : Int) = v := ⟨_, rfl⟩
          have hv0 : 0 ≤ v := by omega
          have hv1 : v < 4294967296 := by have := PolCrc.toNat_lt32 X; omega
          obtain ⟨u, hu⟩ : ∃ u : Int, ((PolCrc.on X s[j]).toNat : Int) = u := ⟨_, rfl⟩
          rw [hX, hv]
          rw [hv] at hi ho
          rw [hu] at ho
          have HU : Hid (((PolCrc.reg (s.data.toList.take (j + 1))).toNat : Int) = u) := Lib.hid (by rw [hX2, hu])
          obtain ⟨T, hTT⟩ : ∃ T, tabI I = T := ⟨_, rfl⟩
          rw [hTT] at ho hck
          have HO := Lib.hid ho
          clear hX hX2 hI hv hu hTT ho
          go_wp2
          go_quiet (fail)
          go_wp2
          go_roundw
          case rel => exact ⟨j + 1, _, by omega, by go_num, by rw [HU.out, ← HO.out], rfl⟩
          case measure => simp [intOf]; omega
        · obtain rfl : j = s.size := by omega
          have hfull : s.data.toList.take s.size = s.data.toList := List.take_of_length_le (by rw [Array.length_toList]; exact Nat.le_refl _)
          rw [hfull]
          clear hfull
          go_wp2
          go_roundw
          case rel => exact ⟨1, _, by omega, by go_num, by rfl, rfl⟩
          case measure => simp [intOf]
    · obtain rfl : k = 1 := by omega
      rw [if_neg (by omega)]
      have hx := not_eq (PolCrc.reg s.data.toList)
      obtain ⟨v, hv⟩ : ∃ v : Int, ((PolCrc.reg s.data.toList).toNat : Int) = v := ⟨_, rfl⟩
      have hv0 : 0 ≤ v := by omega
      have hv1 : v < 4294967296 := by have := PolCrc.toNat_lt32 (PolCrc.reg s.data.toList); omega
      rw [hv] at hx ⊢
      have HX := Lib.hid hx
      clear hx hv
      go_wp2
      all_goals
        first
          | (exfalso; rename_i hsg; revert hsg; decide)
          | (go_ret; exact ⟨congrArg (fun z => Ending.returned (.int .u32 z)) HX.out, _, rfl⟩)

theorem strOf4 (a b c d : Int) (l : List UInt8) (h : [UInt8.ofNat a.toNat, UInt8.ofNat b.toNat, UInt8.ofNat c.toNat, UInt8.ofNat d.toNat] = l) : strOfNums [a, b, c, d] = ⟨l.toArray⟩ := by
  rw [← h]
  rfl
theorem four_crc (x : BitVec 32) : crc_four.f (x.toNat : Int) = some ⟨(PolCrc.fourB x).toArray⟩ := by
  unfold crc_four.f
  congr 1
  apply strOf4
  have e : ∀ (n : Nat) (y : BitVec 8), n % 256 = y.toNat → UInt8.ofNat n = ⟨y⟩ := by
    intro n y h
    apply UInt8.toNat.inj
    rw [UInt8.toNat_ofNat']
    exact h
  have hx := x.isLt
  unfold PolCrc.fourB
  rw [e _ ((x >>> 24).setWidth 8) (by rw [BitVec.toNat_setWidth, BitVec.toNat_ushiftRight, Nat.shiftRight_eq_div_pow]; omega), e _ ((x >>> 16).setWidth 8) (by rw [BitVec.toNat_setWidth, BitVec.toNat_ushiftRight, Nat.shiftRight_eq_div_pow]; omega),
    e _ ((x >>> 8).setWidth 8) (by rw [BitVec.toNat_setWidth, BitVec.toNat_ushiftRight, Nat.shiftRight_eq_div_pow]; omega), e _ (x.setWidth 8) (by rw [BitVec.toNat_setWidth]; omega)]
theorem crcfour_any (x : BitVec 32) (w : World) : Calls Tryd.prog 73 #[.int .u32 (x.toNat : Int)] w fun e w' => e = .returned (.string ⟨(PolCrc.fourB x).toArray⟩) ∧ Below w.heap.size w w' :=
  crc_four.calls _ _ w (four_crc x)
/-- Do bytes end with their sum? -/
def fitsB (l : List UInt8) : Bool := decide (4 ≤ l.length) && (PolCrc.fourB (PolCrc.sum (l.take (l.length - 4))) == l.drop (l.length - 4))
/-- Bytes, and their sum. -/
def sealL (l : List UInt8) : List UInt8 := l ++ PolCrc.fourB (PolCrc.sum l)
set_option maxHeartbeats 8000000 in
set_option maxRecDepth 100000 in
theorem Seal_any (s : ByteArray) (g : Nat) (w : World) (hs : s.size ≤ 140737488355328) (hT : IsTab w g) :
    Calls Tryd.prog 52 #[.pointer (some ⟨g, 0, none⟩), .string s] w fun e w' => e = .returned (.string ⟨(sealL s.data.toList).toArray⟩) ∧ Below w.heap.size w w' := by
  have HT := Lib.hid hT
  clear hT
  go_enter Tryd.func52, Tryd.ntmps52
  go_wp2_with fail
  refine (Sum_any s g ⟨w.heap.size, 0, none⟩ _ hs (HT.out.below (below_alloc (Below.refl _ _) _)) (by go_simp)).mono ?_
  rintro e w1 ⟨rfl, q, rfl⟩
  have D1 := Lib.hid (pw_below_drewN (below_alloc (Below.refl w.heap.size w) (.cells #[.string s] 9 (0, 0))) q)
  go_wp2_with fail
  refine (crcfour_any _ _).mono ?_
  rintro e w2 ⟨rfl, b2⟩
  have D2 := Lib.hid (below_step D1.out b2)
  clear b2
  have z4 : (⟨(PolCrc.fourB (PolCrc.sum s.data.toList)).toArray⟩ : ByteArray).size = 4 := rfl
  have z5 : ¬ (9223372036854775807 < s.size + 4) := by omega
  go_wp2
  go_ret
  refine ⟨?_, D2.out⟩
  have e : s ++ ⟨(PolCrc.fourB (PolCrc.sum s.data.toList)).toArray⟩ = (⟨(sealL s.data.toList).toArray⟩ : ByteArray) := by
    apply ByteArray.ext
    rw [ByteArray.data_append]
    unfold sealL
    simp
  exact congrArg (fun z => Ending.returned (.string z)) e
theorem sub_list (s : ByteArray) (n : Nat) : (s.extract 0 n).data.toList = s.data.toList.take n := by
  rw [ByteArray.data_extract]
  simp
theorem end_list (s : ByteArray) (n : Nat) : (s.extract n s.size).toList = s.data.toList.drop n := by
  rw [ByteArray.toList_eq, ByteArray.data_extract, Array.toList_extract]
  show (s.data.toList.drop n).take (s.size - n) = _
  exact List.take_of_length_le (by rw [List.length_drop, Array.length_toList]; exact Nat.le_refl _)
set_option maxHeartbeats 8000000 in
set_option maxRecDepth 100000 in
theorem Fits_any (s : ByteArray) (g : Nat) (w : World) (hs : s.size ≤ 140737488355328) (hT : IsTab w g) :
    Calls Tryd.prog 53 #[.pointer (some ⟨g, 0, none⟩), .string s] w fun e w' => e = .returned (.bool (fitsB s.data.toList)) ∧ Below w.heap.size w w' := by
  have HT := Lib.hid hT
  clear hT
  have hz : s.data.toList.length = s.size := by rw [Array.length_toList]; rfl
  by_cases h4 : 4 ≤ s.size
  · have hn0 : (0 : Int) ≤ (s.size : Int) - 4 := by omega
    have hd : decide ((0 : Int) ≤ (s.size : Int) - 4) = true := decide_eq_true hn0
    have hF : fitsB s.data.toList = (PolCrc.fourB (PolCrc.sum (s.extract 0 (s.size - 4)).data.toList) == (s.extract (s.size - 4) s.size).toList) := by
      unfold fitsB
      rw [hz, sub_list, end_list, decide_eq_true h4, Bool.true_and]
    have HF := Lib.hid hF
    clear hF hz hd hn0
    have e1 : (s.size : Int) - 4 = ((s.size - 4 : Nat) : Int) := by omega
    have hle : s.size - 4 ≤ s.size := by omega
    have HE := Lib.hid e1
    clear e1 h4
    go_enter Tryd.func53, Tryd.ntmps53
    go_wp2_with fail
    rw [HE.out]
    generalize s.size - 4 = m at hle HF ⊢
    clear HE
    go_region_held3 (fun w' => True) (trivial)
      (first
        | (go_at_call 74; refine (Sum_any (s.extract 0 m) g ⟨w.heap.size, 0, none⟩ _ (by rw [ByteArray.size_extract]; omega) (HT.out.below (by first | exact below_alloc (below_drew1 (Below.refl _ _)) _ | exact below_drew1 (below_alloc (Below.refl _ _) _))) (by go_simp)).mono ?_; rintro e w' ⟨rfl, q, rfl⟩; have D1 := Lib.hid (pw_below_drewN (below_alloc (below_drew1 (Below.refl w.heap.size w)) (.cells #[.string (s.extract 0 m)] 9 (0, 0))) q))
        | (go_at_call 73; refine (crcfour_any _ _).mono ?_; rintro e w2 ⟨rfl, b2⟩; have D2 : Hid (Below w.heap.size w w2) := Lib.hid (below_step (by repeat (first | exact Below.refl _ _ | apply below_alloc | apply pw_below_drewN | apply below_drew1)) b2)))
    go_wp2
    go_ret
    refine ⟨?_, D2.out⟩
    rw [HF.out, sub_list]
    rfl
  · obtain ⟨v, hv⟩ : ∃ v : Int, (s.size : Int) - 4 = v := ⟨_, rfl⟩
    have hv0 : v < 0 := by omega
    have hd : decide ((0 : Int) ≤ v) = false := decide_eq_false (by omega)
    have HV := Lib.hid hv
    clear hv
    have hF : fitsB s.data.toList = false := by
      unfold fitsB
      rw [hz, decide_eq_false h4, Bool.false_and]
    have HF := Lib.hid hF
    clear hF hz
    go_enter Tryd.func53, Tryd.ntmps53
    go_wp2_with fail
    rw [HV.out]
    go_quiet (fail)
    go_wp2
    go_ret
    exact ⟨by rw [HF.out]; rfl, by repeat (first | exact Below.refl _ _ | apply below_alloc | apply pw_below_drewN | apply below_drew1)⟩
end Go.Proofs.YtjbnihaekgmhlaaDoor
