/- CRC-32 over GF(2): sums bit by bit, by a table; sealed bytes; turned bits. Plain: no program. -/
import Derived.Laws.BitsLemmas
namespace Go.Proofs.YtjbnihaekgmhlaaDoor.PolCrc
set_option linter.unusedSimpArgs false
set_option linter.unusedVariables false

/-- One bit's step of the register. -/
def s1 (x : BitVec 32) : BitVec 32 := if x.msb then (x <<< 1) ^^^ 0x04c11db7#32 else x <<< 1

theorem s1_zero : s1 0#32 = 0#32 := by decide

theorem s1_xor (x y : BitVec 32) : s1 (x ^^^ y) = s1 x ^^^ s1 y := by
  unfold s1
  rw [BitVec.msb_xor, BitVec.shiftLeft_xor_distrib]
  cases hx : x.msb <;> cases hy : y.msb <;> simp
  · rw [BitVec.xor_assoc]
  · rw [BitVec.xor_assoc, BitVec.xor_comm (y <<< 1), ← BitVec.xor_assoc]
  · have e : ∀ a b p : BitVec 32, a ^^^ b = a ^^^ p ^^^ (b ^^^ p) := by
      intro a b p
      rw [BitVec.xor_assoc, BitVec.xor_comm b p, ← BitVec.xor_assoc p p b, BitVec.xor_self, BitVec.zero_xor]
    exact e _ _ _

theorem s1_eq_zero (x : BitVec 32) (h : s1 x = 0#32) : x = 0#32 := by
  unfold s1 at h
  split at h
  · have h0 := congrArg (fun z : BitVec 32 => z.getLsbD 0) h
    simp at h0
  · rename_i hm
    apply BitVec.eq_of_getLsbD_eq
    intro i hi
    have hm' : x.getLsbD 31 = false := by
      have : x.msb = x.getLsbD 31 := by simp [BitVec.msb_eq_getLsbD_last]
      rw [← this]; simpa using hm
    by_cases h31 : i = 31
    · subst h31; simpa using hm'
    · have h0 := congrArg (fun z : BitVec 32 => z.getLsbD (i + 1)) h
      simp [show i + 1 < 32 by omega] at h0
      rw [BitVec.getLsbD_eq_getElem (by omega)]
      simpa using h0

/-- n steps. -/
def sn : Nat → BitVec 32 → BitVec 32
  | 0, x => x
  | n + 1, x => sn n (s1 x)

theorem sn_xor (n : Nat) : ∀ x y, sn n (x ^^^ y) = sn n x ^^^ sn n y := by
  induction n with
  | zero => intro x y; rfl
  | succ n ih => intro x y; simp only [sn]; rw [s1_xor, ih]

theorem sn_zero (n : Nat) : sn n 0#32 = 0#32 := by
  induction n with
  | zero => rfl
  | succ n ih => simp only [sn, s1_zero, ih]

theorem sn_eq_zero (n : Nat) : ∀ x, sn n x = 0#32 → x = 0#32 := by
  induction n with
  | zero => intro x h; exact h
  | succ n ih => intro x h; exact s1_eq_zero _ (ih _ h)

theorem sn_inj (n : Nat) (x y : BitVec 32) (h : sn n x = sn n y) : x = y := by
  have : sn n (x ^^^ y) = 0#32 := by rw [sn_xor, h, BitVec.xor_self]
  have := sn_eq_zero n _ this
  exact BitVec.xor_eq_zero_iff.1 this

theorem sn_add (m n : Nat) : ∀ x, sn (m + n) x = sn n (sn m x) := by
  induction m with
  | zero => intro x; simp [sn]
  | succ m ih => intro x; rw [Nat.succ_add]; simp only [sn]; exact ih _

/-- The register moved on by bits, the first one first. -/
def top (b : Bool) : BitVec 32 := if b then 0x80000000#32 else 0#32
def br : BitVec 32 → List Bool → BitVec 32
  | x, [] => x
  | x, b :: l => br (s1 (x ^^^ top b)) l

theorem top_xor (a b : Bool) : top (a ^^ b) = top a ^^^ top b := by cases a <;> cases b <;> decide

theorem br_xor : ∀ (l m : List Bool) (x y : BitVec 32), l.length = m.length → br (x ^^^ y) (List.zipWith (· ^^ ·) l m) = br x l ^^^ br y m
  | [], [], x, y, _ => rfl
  | a :: l, b :: m, x, y, h => by
    simp only [List.zipWith, br]
    have e : x ^^^ y ^^^ top (a ^^ b) = (x ^^^ top a) ^^^ (y ^^^ top b) := by
      rw [top_xor, BitVec.xor_assoc, BitVec.xor_assoc, ← BitVec.xor_assoc y, BitVec.xor_comm y, BitVec.xor_assoc]
    rw [e, s1_xor]
    exact br_xor l m _ _ (by simpa using h)
  | [], _ :: _, _, _, h => by simp at h
  | _ :: _, [], _, _, h => by simp at h

theorem br_append : ∀ (l m : List Bool) (x : BitVec 32), br x (l ++ m) = br (br x l) m
  | [], _, _ => rfl
  | _ :: l, m, _ => br_append l m _

theorem br_zeros (n : Nat) : ∀ x, br x (List.replicate n false) = sn n x := by
  induction n with
  | zero => intro x; rfl
  | succ n ih => intro x; simp only [List.replicate_succ, br, sn, top]; simpa using ih _

/-- Bits as the highest bits of a register. -/
def hi : List Bool → BitVec 32
  | [] => 0#32
  | b :: l => top b ^^^ (hi l >>> 1)

theorem hi_low : ∀ (l : List Bool) (i : Nat), i + l.length < 32 → (hi l).getLsbD i = false
  | [], i, _ => by simp [hi]
  | b :: l, i, h => by
    simp only [List.length_cons] at h
    have h2 := hi_low l (i + 1) (by omega)
    have h3 : (top b).getLsbD i = false := by
      unfold top
      cases b
      · simp
      · have : i < 31 := by omega
        have e : ∀ j, j < 31 → (0x80000000#32).getLsbD j = false := by decide
        exact e i this
    simp only [hi, BitVec.getLsbD_xor, BitVec.getLsbD_ushiftRight, h3, Nat.add_comm 1 i, h2]
    rfl

theorem s1_shr (y : BitVec 32) (h : y.getLsbD 0 = false) : s1 (y >>> 1) = y := by
  have hm : (y >>> 1).msb = false := by
    simp [BitVec.msb_eq_getLsbD_last]
  unfold s1
  rw [hm]
  simp only [Bool.false_eq_true, if_false]
  apply BitVec.eq_of_getLsbD_eq
  intro i hi
  simp only [BitVec.getLsbD_shiftLeft, BitVec.getLsbD_ushiftRight]
  by_cases h0 : i = 0
  · subst h0; simpa using h.symm
  · have : ¬ i < 1 := by omega
    simp [hi, this, show 1 + (i - 1) = i by omega]

theorem br_hi : ∀ (l : List Bool) (x : BitVec 32), l.length ≤ 32 → br x l = sn l.length (x ^^^ hi l)
  | [], x, _ => by simp [br, sn, hi]
  | b :: l, x, h => by
    simp only [List.length_cons] at h
    simp only [br, List.length_cons, sn, hi]
    rw [br_hi l _ (by omega)]
    congr 1
    have e : x ^^^ (top b ^^^ hi l >>> 1) = (x ^^^ top b) ^^^ (hi l >>> 1) := by rw [BitVec.xor_assoc]
    rw [e, s1_xor (x ^^^ top b), s1_shr (hi l) (hi_low l 0 (by omega))]

theorem hi_zero : ∀ (l : List Bool), l.length ≤ 32 → hi l = 0#32 → ∀ b ∈ l, b = false
  | [], _, _ => by simp
  | a :: l, hl, h => by
    simp only [List.length_cons] at hl
    simp only [hi] at h
    have ha : a = false := by
      have h0 := congrArg (fun z : BitVec 32 => z.getLsbD 31) h
      cases a
      · rfl
      · simp [top] at h0
    subst ha
    have h' : hi l >>> 1 = 0#32 := by simpa [top] using h
    have h2 : hi l = 0#32 := by
      have := s1_shr (hi l) (hi_low l 0 (by omega))
      rw [h', s1_zero] at this
      exact this.symm
    intro b hb
    rcases List.mem_cons.1 hb with rfl | hb
    · rfl
    · exact hi_zero l (by omega) h2 b hb

/-- Bits that are not all 0, and lie within 32: the register is another one. -/
theorem burst (a c : Nat) (w : List Bool) (hw : w.length ≤ 32) (h : br 0#32 (List.replicate a false ++ w ++ List.replicate c false) = 0#32) : ∀ b ∈ w, b = false := by
  rw [br_append, br_append, br_zeros, br_zeros, sn_zero] at h
  have h1 := sn_eq_zero _ _ h
  rw [br_hi w _ hw, BitVec.zero_xor] at h1
  exact hi_zero w hw (sn_eq_zero _ _ h1)


theorem sn_low : ∀ (n : Nat) (x : BitVec 32), (∀ i, 32 - n ≤ i → x.getLsbD i = false) → sn n x = x <<< n
  | 0, x, _ => by simp [sn]
  | n + 1, x, h => by
    by_cases hn : 32 ≤ n
    · have hx : x = 0#32 := by
        apply BitVec.eq_of_getLsbD_eq
        intro i hi
        rw [h i (by omega)]
        simp
      subst hx
      rw [sn_zero]
      simp
    have hm : x.msb = false := by
      rw [BitVec.msb_eq_getLsbD_last]
      exact h 31 (by omega)
    have e : s1 x = x <<< 1 := by unfold s1; rw [hm]; rfl
    simp only [sn, e]
    rw [sn_low n (x <<< 1) (fun i hi => by
      rw [BitVec.getLsbD_shiftLeft]
      by_cases h0 : i < 1
      · simp [h0]
      · rw [h (i - 1) (by omega)]; simp)]
    rw [Nat.add_comm n 1, BitVec.shiftLeft_add]

/-- A byte as the highest eight bits. -/
def bb (b : UInt8) : BitVec 32 := (b.toBitVec.setWidth 32) <<< 24
/-- The register moved on by a byte. -/
def on (x : BitVec 32) (b : UInt8) : BitVec 32 := sn 8 (x ^^^ bb b)
/-- What the table holds. -/
def tab (b : BitVec 8) : BitVec 32 := sn 8 ((b.setWidth 32) <<< 24)

theorem on_tab (x : BitVec 32) (b : UInt8) : on x b = (x <<< 8) ^^^ tab ((x >>> 24).setWidth 8 ^^^ b.toBitVec) := by
  unfold on tab
  have e : x ^^^ bb b = (x &&& 0x00ffffff#32) ^^^ ((((x >>> 24).setWidth 8 ^^^ b.toBitVec).setWidth 32) <<< 24) := by
    apply BitVec.eq_of_getLsbD_eq
    intro i hi
    have hmask : (0x00ffffff#32).getLsbD i = decide (i < 24) := by
      have : ∀ j : Fin 32, (0x00ffffff#32).getLsbD j.val = decide (j.val < 24) := by decide
      exact this ⟨i, hi⟩
    simp only [bb, BitVec.getLsbD_xor, BitVec.getLsbD_and, BitVec.getLsbD_shiftLeft, BitVec.getLsbD_setWidth, BitVec.getLsbD_ushiftRight, hmask]
    by_cases h : i < 24
    · simp [h]
    · have h1 : i - 24 < 8 := by omega
      have h2 : i - 24 < 32 := by omega
      have h3 : 24 + (i - 24) = i := by omega
      simp [h, hi, h1, h2, h3]
  rw [e, sn_xor]
  congr 1
  rw [sn_low 8 _ (fun i hi => by
    rw [BitVec.getLsbD_and]
    have hmask : (0x00ffffff#32).getLsbD i = false := by
      by_cases h : i < 32
      · have : ∀ j : Fin 32, 24 ≤ j.val → (0x00ffffff#32).getLsbD j.val = false := by decide
        exact this ⟨i, h⟩ hi
      · exact BitVec.getLsbD_of_ge _ _ (by omega)
    rw [hmask, Bool.and_false])]
  apply BitVec.eq_of_getLsbD_eq
  intro i hi
  simp only [BitVec.getLsbD_shiftLeft, BitVec.getLsbD_and]
  by_cases h : i < 8
  · simp [h]
  · have hmask : (0x00ffffff#32).getLsbD (i - 8) = true := by
      have : ∀ j : Fin 24, (0x00ffffff#32).getLsbD j.val = true := by decide
      exact this ⟨i - 8, by omega⟩
    simp [hi, h, hmask]

/-- The sum of bytes. -/
def reg (l : List UInt8) : BitVec 32 := l.foldl on 0xffffffff#32
def sum (l : List UInt8) : BitVec 32 := ~~~ reg l

/-! Bits of bytes. -/
def bitsB (b : UInt8) : List Bool := [b.toBitVec.getLsbD 7, b.toBitVec.getLsbD 6, b.toBitVec.getLsbD 5, b.toBitVec.getLsbD 4, b.toBitVec.getLsbD 3, b.toBitVec.getLsbD 2, b.toBitVec.getLsbD 1, b.toBitVec.getLsbD 0]
def bitsL (l : List UInt8) : List Bool := l.flatMap bitsB
theorem bitsB_len (b : UInt8) : (bitsB b).length = 8 := rfl
theorem bitsL_len (l : List UInt8) : (bitsL l).length = 8 * l.length := by
  unfold bitsL
  induction l with
  | nil => rfl
  | cons a l ih => rw [List.flatMap_cons, List.length_append, ih, bitsB_len, List.length_cons]; omega
theorem hi_bits (b : UInt8) : hi (bitsB b) = bb b := by
  have : ∀ v : BitVec 8, hi [v.getLsbD 7, v.getLsbD 6, v.getLsbD 5, v.getLsbD 4, v.getLsbD 3, v.getLsbD 2, v.getLsbD 1, v.getLsbD 0] = (v.setWidth 32) <<< 24 := by decide +kernel
  exact this b.toBitVec
theorem on_br (x : BitVec 32) (b : UInt8) : on x b = br x (bitsB b) := by
  rw [br_hi _ _ (by rw [bitsB_len]; omega), bitsB_len, hi_bits]
  rfl
theorem foldl_br : ∀ (l : List UInt8) (x : BitVec 32), l.foldl on x = br x (bitsL l)
  | [], _ => rfl
  | b :: l, x => by
    rw [List.foldl_cons, foldl_br l, on_br]
    unfold bitsL
    rw [List.flatMap_cons, br_append]

/-- A register's four bytes, the highest first. -/
def fourB (x : BitVec 32) : List UInt8 := [⟨(x >>> 24).setWidth 8⟩, ⟨(x >>> 16).setWidth 8⟩, ⟨(x >>> 8).setWidth 8⟩, ⟨x.setWidth 8⟩]
theorem hi_append : ∀ (l m : List Bool), hi (l ++ m) = hi l ^^^ (hi m >>> l.length)
  | [], m => by simp [hi]
  | b :: l, m => by
    simp only [List.cons_append, hi, hi_append l m, List.length_cons]
    rw [BitVec.ushiftRight_xor_distrib, ← BitVec.shiftRight_add, BitVec.xor_assoc]
theorem hi_four (x : BitVec 32) : hi (bitsL (fourB x)) = x := by
  simp only [bitsL, fourB, List.flatMap_cons, List.flatMap_nil, List.append_nil]
  rw [hi_append, hi_append, hi_append, hi_bits, hi_bits, hi_bits, hi_bits]
  simp only [bitsB_len]
  apply BitVec.eq_of_getLsbD_eq
  intro i hi
  simp only [bb, BitVec.getLsbD_xor, BitVec.getLsbD_ushiftRight, BitVec.getLsbD_shiftLeft, BitVec.getLsbD_setWidth]
  by_cases h1 : i < 8
  · have a1 : 8 + i < 24 := by omega
    have a2 : 8 + (8 + i) < 24 := by omega
    have a3 : 8 + (8 + (8 + i)) < 32 := by omega
    have a4 : ¬ 8 + (8 + (8 + i)) < 24 := by omega
    have a5 : 8 + (8 + (8 + i)) - 24 = i := by omega
    simp [h1, a1, a2, a3, a4, a5, show i < 24 by omega, show i < 32 by omega]
  · by_cases h2 : i < 16
    · simp [show i < 24 by omega, show 8 + i < 24 by omega, show ¬ 8 + (8 + i) < 24 by omega, show 8 + (8 + i) < 32 by omega, show ¬ 8 + (8 + (8 + i)) < 32 by omega, show 8 + (8 + i) - 24 = i - 8 by omega, show i - 8 < 8 by omega, show i - 8 < 32 by omega, show 8 + (i - 8) = i by omega]
    · by_cases h3 : i < 24
      · simp [h3, show ¬ 8 + i < 24 by omega, show 8 + i < 32 by omega, show ¬ 8 + (8 + i) < 32 by omega, show ¬ 8 + (8 + (8 + i)) < 32 by omega, show 8 + i - 24 = i - 16 by omega, show i - 16 < 8 by omega, show i - 16 < 32 by omega, show 16 + (i - 16) = i by omega]
      · simp [h3, hi, show ¬ 8 + i < 32 by omega, show ¬ 8 + (8 + i) < 32 by omega, show ¬ 8 + (8 + (8 + i)) < 32 by omega, show i - 24 < 8 by omega, show i - 24 < 32 by omega, show 24 + (i - 24) = i by omega]
theorem fourB_len (x : BitVec 32) : (fourB x).length = 4 := rfl
/-- Behind bytes and their sum stands a register that does not go by the bytes. -/
theorem sealed (l : List UInt8) (x : BitVec 32) : br 0xffffffff#32 (bitsL (l ++ fourB x)) = sn 32 (reg l ^^^ x) := by
  unfold bitsL
  rw [List.flatMap_append, br_append]
  show br (br _ (bitsL l)) (bitsL (fourB x)) = _
  rw [← foldl_br l, br_hi (bitsL (fourB x)) _ (by rw [bitsL_len, fourB_len]; omega), bitsL_len, fourB_len, hi_four]
  rfl
theorem fits_iff (l : List UInt8) (x : BitVec 32) : br 0xffffffff#32 (bitsL (l ++ fourB x)) = sn 32 0xffffffff#32 ↔ x = sum l := by
  rw [sealed]
  constructor
  · intro h
    have h1 := sn_inj _ _ _ h
    unfold sum
    have : x = reg l ^^^ (reg l ^^^ x) := by rw [← BitVec.xor_assoc, BitVec.xor_self, BitVec.zero_xor]
    rw [this, h1]
    rw [show (0xffffffff#32) = BitVec.allOnes 32 by decide, BitVec.xor_allOnes]
  · rintro rfl
    unfold sum
    congr 1
    rw [show (0xffffffff#32) = BitVec.allOnes 32 by decide, ← BitVec.xor_allOnes, ← BitVec.xor_assoc, BitVec.xor_self, BitVec.zero_xor]

/-- Bits turned within 32: what fitted does not fit any more, or nothing was turned. -/
theorem turned (s t : List UInt8) (a c : Nat) (w : List Bool) (hw : w.length ≤ 32) (he : bitsL t = List.zipWith (· ^^ ·) (bitsL s) (List.replicate a false ++ w ++ List.replicate c false)) (hn : a + w.length + c = 8 * s.length)
    (h1 : br 0xffffffff#32 (bitsL s) = sn 32 0xffffffff#32) (h2 : br 0xffffffff#32 (bitsL t) = sn 32 0xffffffff#32) : bitsL t = bitsL s := by
  have hlen : (bitsL s).length = (List.replicate a false ++ w ++ List.replicate c false).length := by
    rw [bitsL_len]
    simp
    omega
  have hx := br_xor (bitsL s) (List.replicate a false ++ w ++ List.replicate c false) 0xffffffff#32 0#32 hlen
  rw [BitVec.xor_zero, ← he, h2, h1] at hx
  have h0 : br 0#32 (List.replicate a false ++ w ++ List.replicate c false) = 0#32 := by
    have := congrArg (fun z => sn 32 0xffffffff#32 ^^^ z) hx
    simp only [BitVec.xor_self] at this
    rw [← BitVec.xor_assoc, BitVec.xor_self, BitVec.zero_xor] at this
    exact this.symm
  have hz := burst a c w hw h0
  have hwz : w = List.replicate w.length false := List.eq_replicate_of_mem hz
  rw [he]
  rw [hwz, List.replicate_append_replicate, List.replicate_append_replicate, hn, ← bitsL_len]
  generalize bitsL s = q
  induction q with
  | nil => rfl
  | cons b q ih => rw [List.length_cons, List.replicate_succ, List.zipWith_cons_cons, ih, Bool.xor_false]
theorem bitsB_inj {a b : UInt8} (h : bitsB a = bitsB b) : a = b := by
  have ha := hi_bits a
  have hb := hi_bits b
  rw [h, hb] at ha
  have : a.toBitVec = b.toBitVec := by
    apply BitVec.eq_of_getLsbD_eq
    intro i hi
    have := congrArg (fun z : BitVec 32 => z.getLsbD (24 + i)) ha
    simp only [bb, BitVec.getLsbD_shiftLeft, BitVec.getLsbD_setWidth] at this
    simpa [show 24 + i < 32 by omega, show i < 32 by omega, show ¬ 24 + i < 24 by omega] using this.symm
  exact UInt8.eq_of_toBitVec_eq this
theorem bitsL_inj : ∀ {l m : List UInt8}, bitsL l = bitsL m → l = m
  | [], [], _ => rfl
  | [], b :: m, h => by
    have := congrArg List.length h
    rw [bitsL_len, bitsL_len, List.length_cons, List.length_nil] at this
    omega
  | a :: l, [], h => by
    have := congrArg List.length h
    rw [bitsL_len, bitsL_len, List.length_cons, List.length_nil] at this
    omega
  | a :: l, b :: m, h => by
    unfold bitsL at h
    rw [List.flatMap_cons, List.flatMap_cons] at h
    obtain ⟨h1, h2⟩ := List.append_inj h (by rw [bitsB_len, bitsB_len])
    rw [bitsB_inj h1, bitsL_inj h2]

/-! The program's numbers. -/
theorem wrap_u32 (n : Int) (h0 : 0 ≤ n) (h1 : n < 4294967296) : IntKind.u32.wrap n = n := by
  show n % 4294967296 = n
  omega
theorem ofInt_toNat (x : BitVec 32) : BitVec.ofInt 32 (x.toNat : Int) = x := by
  rw [BitVec.ofInt_natCast, BitVec.ofNat_toNat, BitVec.setWidth_eq]
theorem xor32 (x y : BitVec 32) : Go.bits .xor .u32 (x.toNat : Int) (y.toNat : Int) = ((x ^^^ y).toNat : Int) := by
  show IntKind.u32.wrap (((BitVec.ofInt 32 (x.toNat : Int)) ^^^ (BitVec.ofInt 32 (y.toNat : Int))).toNat : Int) = _
  rw [ofInt_toNat, ofInt_toNat]
  exact wrap_u32 _ (by omega) (by have := (x ^^^ y).isLt; omega)
theorem toNat_lt32 (x : BitVec 32) : (x.toNat : Int) < 4294967296 := by have := x.isLt; omega
theorem shl1_nat (x : BitVec 32) : (((x <<< 1).toNat : Nat) : Int) = (x.toNat : Int) * 2 % 4294967296 := by
  rw [BitVec.toNat_shiftLeft, Nat.shiftLeft_eq]
  have := x.isLt
  omega
theorem msb_nat (x : BitVec 32) : (x.toNat : Int) / 2147483648 = if x.msb then 1 else 0 := by
  have h := x.isLt
  have hm : x.msb = decide (2 ^ 31 ≤ x.toNat) := by
    rw [BitVec.msb_eq_decide]
  rw [hm]
  by_cases q : 2 ^ 31 ≤ x.toNat
  · simp [q]; omega
  · simp [q]; omega
/-- One step, as Make takes it. -/
theorem step_make (x : BitVec 32) : Go.bits .xor .u32 ((x.toNat : Int) * 2 % 4294967296) (79764919 * ((x.toNat : Int) / 2147483648) % 4294967296) = ((s1 x).toNat : Int) := by
  rw [msb_nat, ← shl1_nat]
  unfold s1
  cases hx : x.msb
  · simp only [Bool.false_eq_true, if_false]
    have := xor32 (x <<< 1) 0#32
    rw [BitVec.xor_zero] at this
    exact this
  · simp only [if_true]
    exact xor32 (x <<< 1) 0x04c11db7#32
theorem step_make2 (x : BitVec 32) (v : Int) (h : v = (x.toNat : Int)) : Go.bits .xor .u32 (v * 2 % 4294967296) (79764919 * (v / 2147483648) % 4294967296) = ((s1 x).toNat : Int) := by rw [h, step_make]
theorem step_make3 (x : BitVec 32) (v : Int) (h : v = (x.toNat : Int)) : Go.bits .xor .u32 (v * 2 % 4294967296) (79764919 * (v / 2147483648)) = ((s1 x).toNat : Int) := by
  have e : 79764919 * (v / 2147483648) % 4294967296 = 79764919 * (v / 2147483648) := by have := toNat_lt32 x; omega
  rw [← e, step_make2 x v h]
end Go.Proofs.YtjbnihaekgmhlaaDoor.PolCrc
