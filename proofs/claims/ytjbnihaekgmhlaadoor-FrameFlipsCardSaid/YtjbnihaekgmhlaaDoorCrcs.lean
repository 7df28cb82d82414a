/- crc.Table's Sum, Fits, Seal at this translation: their walks. -/
import Derived.Test.YtjbnihaekgmhlaaDoorCrcw
import Derived.Test.YtjbnihaekgmhlaaDoorFs
import Derived.Deep.QuietTactic
import Derived.BigQuiet
import Derived.StillTailTactics
import Derived.Deep.RegionHeld3
namespace Go.Proofs.YtjbnihaekgmhlaaDoor
open Go.RowKit Pr Go.Proofs.YtjbnihaekgmhlaaDoorW.PrintWords
set_option linter.unusedVariables false
set_option linter.unusedSimpArgs false

/-- A table lies at a block. -/
def IsTab (w : World) (g : Nat) : Prop := w.heap[g]? = some (.cells (tabN 256) 27 (0, 0))
theorem IsTab.below {w w1 : World} {g : Nat} (h : IsTab w g) (hb : Below w.heap.size w w1) : IsTab w1 g := blk_below h hb
theorem IsTab.cell {w : World} {g : Nat} (h : IsTab w g) (k : Nat) (hk : k < 256) : w.cell? ⟨g, k, none⟩ = some (.int .u32 (tabI k)) := (blk_cell h k).trans (tabN_at k hk)
theorem xor8 (x y : BitVec 8) : Go.bits .xor .u8 (x.toNat : Int) (y.toNat : Int) = ((x ^^^ y).toNat : Int) := by
  have e : ∀ z : BitVec 8, BitVec.ofInt 8 (z.toNat : Int) = z := fun z => by rw [BitVec.ofInt_natCast, BitVec.ofNat_toNat, BitVec.setWidth_eq]
  show ((((BitVec.ofInt 8 (x.toNat : Int)) ^^^ (BitVec.ofInt 8 (y.toNat : Int))).toNat : Int) % 256) = _
  rw [e, e]
  have := (x ^^^ y).isLt
  omega
/-- Where a byte leads in the table. -/
def idxN (x : BitVec 32) (b : UInt8) : Nat := ((x >>> 24).setWidth 8 ^^^ b.toBitVec).toNat
theorem idxN_lt (x : BitVec 32) (b : UInt8) : idxN x b < 256 := (BitVec.isLt _)
theorem idx_eq (x : BitVec 32) (b : UInt8) : Go.bits .xor .u8 ((x.toNat : Int) / 16777216) (b.toNat : Int) = (idxN x b : Int) := by
  have h1 : (x.toNat : Int) / (16777216 : Int) = ((((x >>> 24).setWidth 8 : BitVec 8).toNat : Nat) : Int) := by
    rw [BitVec.toNat_setWidth, BitVec.toNat_ushiftRight, Nat.shiftRight_eq_div_pow]
    have := x.isLt
    omega
  rw [h1]
  exact xor8 _ b.toBitVec
theorem on_eq (x : BitVec 32) (b : UInt8) : Go.bits .xor .u32 ((x.toNat : Int) * 256 % 4294967296) (tabI (idxN x b)) = ((PolCrc.on x b).toNat : Int) := by
  rw [PolCrc.on_tab]
  have h1 : (x.toNat : Int) * (256 : Int) % (4294967296 : Int) = (((x <<< 8).toNat : Nat) : Int) := by
    rw [BitVec.toNat_shiftLeft, Nat.shiftLeft_eq]
    omega
  have h2 : BitVec.ofNat 8 (idxN x b) = (x >>> 24).setWidth 8 ^^^ b.toBitVec := by
    unfold idxN
    rw [BitVec.ofNat_toNat, BitVec.setWidth_eq]
  unfold tabI
  rw [h1, h2]
  exact PolCrc.xor32 _ _
def regL (l : List UInt8) : BitVec 32 := PolCrc.reg l
theorem reg_snoc (l : List UInt8) (b : UInt8) : PolCrc.reg (l ++ [b]) = PolCrc.on (PolCrc.reg l) b := by
  unfold PolCrc.reg
  rw [List.foldl_append]
  rfl
theorem take_snoc8 (s : ByteArray) (k : Nat) (h : k < s.size) : s.data.toList.take (k + 1) = s.data.toList.take k ++ [s[k]] := by
  rw [List.take_succ_eq_append_getElem (by simpa using h)]
  rfl
theorem not_eq (x : BitVec 32) : Go.bits .xor .u32 IntKind.u32.max (x.toNat : Int) = (((~~~ x).toNat : Nat) : Int) := by
  have := PolCrc.xor32 (BitVec.allOnes 32) x
  rw [BitVec.allOnes_xor] at this
  exact this
set_option maxHeartbeats 8000000 in
set_option maxRecDepth 100000 in
theorem Sum_any (s : ByteArray) (g : Nat) (ad : Addr) (w : World) (hs : s.size ≤ 140737488355328) (hT : IsTab w g) (hc : w.cell? ad = some (.string s)) :
    Calls Tryd.prog 74 #[.pointer (some ⟨g, 0, none⟩), .slice (some ad) 1 1] w fun e w' => e = .returned (.int .u32 ((PolCrc.sum s.data.toList).toNat : Int)) ∧ ∃ n, w' = w.drewN n := by
  have HT := Lib.hid hT
  have HC := Lib.hid hc
  clear hT hc
  go_enter Tryd.func74, Tryd.ntmps74
  go_wp2
  go_loopw [5, 11] (fun x i wr => ∃ (k m : Nat), k ≤ 1 ∧ i = .int .i64 k ∧ x = .int .u32 ((PolCrc.reg (if k = 0 then [] else s.data.toList)).toNat : Int) ∧ wr = w.drewN m) (fun _ i _ => 1 - (intOf i).toNat)
  case atStart => exact ⟨0, 0, by omega, rfl, rfl, rfl⟩
  case round =>
    obtain ⟨k, m, hk, rfl, rfl, rfl⟩ := hrel
    by_cases hlt : k < 1
    · obtain rfl : k = 0 := by omega
      have hc := HC.out
      go_wp2
      clear hc
      go_loopw [5, 17] (fun x i wr => ∃ (j q : Nat), j ≤ s.size ∧ i = .int .i64 j ∧ x = .int .u32 ((PolCrc.reg (s.data.toList.take j)).toNat : Int) ∧ wr = w.drewN q) (fun _ i _ => s.size - (intOf i).toNat)
      case atStart => exact ⟨0, m, by omega, rfl, by rw [List.take_zero], rfl⟩
      case round =>
        obtain ⟨j, q, hj, rfl, rfl, rfl⟩ := hrel
        by_cases hlj : j < s.size
        · obtain ⟨X, hX⟩ : ∃ X, PolCrc.reg (s.data.toList.take j) = X := ⟨_, rfl⟩
          have hX2 : PolCrc.reg (s.data.toList.take (j + 1)) = PolCrc.on X s[j] := by rw [take_snoc8 s j hlj, reg_snoc, hX]
          have hi := idx_eq X s[j]
          have ho := on_eq X s[j]
          have hlI := idxN_lt X s[j]
          have hck := HT.out.cell (idxN X s[j]) hlI
          obtain ⟨I, hI⟩ : ∃ I, idxN X s[j] = I := ⟨_, rfl⟩
          rw [hI] at hi ho hlI hck
          obtain ⟨v, hv⟩ : ∃ v : Int, (X.toNat : Int) = v := ⟨_, rfl⟩
          have hv0 : 0 ≤ v := by omega
          have hv1 : v < 4294967296 := by have := PolCrc.toNat_lt32 X; omega
          obtain ⟨u, hu⟩ : ∃ u : Int, ((PolCrc.on X s[j]).toNat : Int) = u := ⟨_, rfl⟩
          rw [hX, hv]
          rw [hv] at hi ho
          rw [hu] at ho
          have HU : Hid (((PolCrc.reg (s.data.toList.take (j + 1))).toNat : Int) = u) := Lib.hid (by rw [hX2, hu])
          obtain ⟨T, hTT⟩ : ∃ T, tabI I = T := ⟨_, rfl⟩
          rw [hTT] at ho hck
          have HO := Lib.hid ho
          clear hX hX2 hI hv hu hTT ho
          go_wp2
          go_quiet (fail)
          go_wp2
          go_roundw
          case rel => exact ⟨j + 1, _, by omega, by go_num, by rw [HU.out, ← HO.out], rfl⟩
          case measure => simp [intOf]; omega
        · obtain rfl : j = s.size := by omega
          have hfull : s.data.toList.take s.size = s.data.toList := List.take_of_length_le (by rw [Array.length_toList]; exact Nat.le_refl _)
          rw [hfull]
          clear hfull
          go_wp2
          go_roundw
          case rel => exact ⟨1, _, by omega, by go_num, by rfl, rfl⟩
          case measure => simp [intOf]
    · obtain rfl : k = 1 := by omega
      rw [if_neg (by omega)]
      have hx := not_eq (PolCrc.reg s.data.toList)
      obtain ⟨v, hv⟩ : ∃ v : Int, ((PolCrc.reg s.data.toList).toNat : Int) = v := ⟨_, rfl⟩
      have hv0 : 0 ≤ v := by omega
      have hv1 : v < 4294967296 := by have := PolCrc.toNat_lt32 (PolCrc.reg s.data.toList); omega
      rw [hv] at hx ⊢
      have HX := Lib.hid hx
      clear hx hv
      go_wp2
      all_goals
        first
          | (exfalso; rename_i hsg; revert hsg; decide)
          | (go_ret; exact ⟨congrArg (fun z => Ending.returned (.int .u32 z)) HX.out, _, rfl⟩)

theorem strOf4 (a b c d : Int) (l : List UInt8) (h : [UInt8.ofNat a.toNat, UInt8.ofNat b.toNat, UInt8.ofNat c.toNat, UInt8.ofNat d.toNat] = l) : strOfNums [a, b, c, d] = ⟨l.toArray⟩ := by
  rw [← h]
  rfl
theorem four_crc (x : BitVec 32) : crc_four.f (x.toNat : Int) = some ⟨(PolCrc.fourB x).toArray⟩ := by
  unfold crc_four.f
  congr 1
  apply strOf4
  have e : ∀ (n : Nat) (y : BitVec 8), n % 256 = y.toNat → UInt8.ofNat n = ⟨y⟩ := by
    intro n y h
    apply UInt8.toNat.inj
    rw [UInt8.toNat_ofNat']
    exact h
  have hx := x.isLt
  unfold PolCrc.fourB
  rw [e _ ((x >>> 24).setWidth 8) (by rw [BitVec.toNat_setWidth, BitVec.toNat_ushiftRight, Nat.shiftRight_eq_div_pow]; omega), e _ ((x >>> 16).setWidth 8) (by rw [BitVec.toNat_setWidth, BitVec.toNat_ushiftRight, Nat.shiftRight_eq_div_pow]; omega),
    e _ ((x >>> 8).setWidth 8) (by rw [BitVec.toNat_setWidth, BitVec.toNat_ushiftRight, Nat.shiftRight_eq_div_pow]; omega), e _ (x.setWidth 8) (by rw [BitVec.toNat_setWidth]; omega)]
theorem crcfour_any (x : BitVec 32) (w : World) : Calls Tryd.prog 73 #[.int .u32 (x.toNat : Int)] w fun e w' => e = .returned (.string ⟨(PolCrc.fourB x).toArray⟩) ∧ Below w.heap.size w w' :=
  crc_four.calls _ _ w (four_crc x)
/-- Do bytes end with their sum? -/
def fitsB (l : List UInt8) : Bool := decide (4 ≤ l.length) && (PolCrc.fourB (PolCrc.sum (l.take (l.length - 4))) == l.drop (l.length - 4))
/-- Bytes, and their sum. -/
def sealL (l : List UInt8) : List UInt8 := l ++ PolCrc.fourB (PolCrc.sum l)
set_option maxHeartbeats 8000000 in
set_option maxRecDepth 100000 in
theorem Seal_any (s : ByteArray) (g : Nat) (w : World) (hs : s.size ≤ 140737488355328) (hT : IsTab w g) :
    Calls Tryd.prog 52 #[.pointer (some ⟨g, 0, none⟩), .string s] w fun e w' => e = .returned (.string ⟨(sealL s.data.toList).toArray⟩) ∧ Below w.heap.size w w' := by
  have HT := Lib.hid hT
  clear hT
  go_enter Tryd.func52, Tryd.ntmps52
  go_wp2_with fail
  refine (Sum_any s g ⟨w.heap.size, 0, none⟩ _ hs (HT.out.below (below_alloc (Below.refl _ _) _)) (by go_simp)).mono ?_
  rintro e w1 ⟨rfl, q, rfl⟩
  have D1 := Lib.hid (pw_below_drewN (below_alloc (Below.refl w.heap.size w) (.cells #[.string s] 9 (0, 0))) q)
  go_wp2_with fail
  refine (crcfour_any _ _).mono ?_
  rintro e w2 ⟨rfl, b2⟩
  have D2 := Lib.hid (below_step D1.out b2)
  clear b2
  have z4 : (⟨(PolCrc.fourB (PolCrc.sum s.data.toList)).toArray⟩ : ByteArray).size = 4 := rfl
  have z5 : ¬ (9223372036854775807 < s.size + 4) := by omega
  go_wp2
  go_ret
  refine ⟨?_, D2.out⟩
  have e : s ++ ⟨(PolCrc.fourB (PolCrc.sum s.data.toList)).toArray⟩ = (⟨(sealL s.data.toList).toArray⟩ : ByteArray) := by
    apply ByteArray.ext
    rw [ByteArray.data_append]
    unfold sealL
    simp
  exact congrArg (fun z => Ending.returned (.string z)) e
theorem sub_list (s : ByteArray) (n : Nat) : (s.extract 0 n).data.toList = s.data.toList.take n := by
  rw [ByteArray.data_extract]
  simp
theorem end_list (s : ByteArray) (n : Nat) : (s.extract n s.size).toList = s.data.toList.drop n := by
  rw [ByteArray.toList_eq, ByteArray.data_extract, Array.toList_extract]
  show (s.data.toList.drop n).take (s.size - n) = _
  exact List.take_of_length_le (by rw [List.length_drop, Array.length_toList]; exact Nat.le_refl _)
set_option maxHeartbeats 8000000 in
set_option maxRecDepth 100000 in
theorem Fits_any (s : ByteArray) (g : Nat) (w : World) (hs : s.size ≤ 140737488355328) (hT : IsTab w g) :
    Calls Tryd.prog 53 #[.pointer (some ⟨g, 0, none⟩), .string s] w fun e w' => e = .returned (.bool (fitsB s.data.toList)) ∧ Below w.heap.size w w' := by
  have HT := Lib.hid hT
  clear hT
  have hz : s.data.toList.length = s.size := by rw [Array.length_toList]; rfl
  by_cases h4 : 4 ≤ s.size
  · have hn0 : (0 : Int) ≤ (s.size : Int) - 4 := by omega
    have hd : decide ((0 : Int) ≤ (s.size : Int) - 4) = true := decide_eq_true hn0
    have hF : fitsB s.data.toList = (PolCrc.fourB (PolCrc.sum (s.extract 0 (s.size - 4)).data.toList) == (s.extract (s.size - 4) s.size).toList) := by
      unfold fitsB
      rw [hz, sub_list, end_list, decide_eq_true h4, Bool.true_and]
    have HF := Lib.hid hF
    clear hF hz hd hn0
    have e1 : (s.size : Int) - 4 = ((s.size - 4 : Nat) : Int) := by omega
    have hle : s.size - 4 ≤ s.size := by omega
    have HE := Lib.hid e1
    clear e1 h4
    go_enter Tryd.func53, Tryd.ntmps53
    go_wp2_with fail
    rw [HE.out]
    generalize s.size - 4 = m at hle HF ⊢
    clear HE
    go_region_held3 (fun w' => True) (trivial)
      (first
        | (go_at_call 74; refine (Sum_any (s.extract 0 m) g ⟨w.heap.size, 0, none⟩ _ (by rw [ByteArray.size_extract]; omega) (HT.out.below (by first | exact below_alloc (below_drew1 (Below.refl _ _)) _ | exact below_drew1 (below_alloc (Below.refl _ _) _))) (by go_simp)).mono ?_; rintro e w' ⟨rfl, q, rfl⟩; have D1 := Lib.hid (pw_below_drewN (below_alloc (below_drew1 (Below.refl w.heap.size w)) (.cells #[.string (s.extract 0 m)] 9 (0, 0))) q))
        | (go_at_call 73; refine (crcfour_any _ _).mono ?_; rintro e w2 ⟨rfl, b2⟩; have D2 : Hid (Below w.heap.size w w2) := Lib.hid (below_step (by repeat (first | exact Below.refl _ _ | apply below_alloc | apply pw_below_drewN | apply below_drew1)) b2)))
    go_wp2
    go_ret
    refine ⟨?_, D2.out⟩
    rw [HF.out, sub_list]
    rfl
  · obtain ⟨v, hv⟩ : ∃ v : Int, (s.size : Int) - 4 = v := ⟨_, rfl⟩
    have hv0 : v < 0 := by omega
    have hd : decide ((0 : Int) ≤ v) = false := decide_eq_false (by omega)
    have HV := Lib.hid hv
    clear hv
    have hF : fitsB s.data.toList = false := by
      unfold fitsB
      rw [hz, decide_eq_false h4, Bool.false_and]
    have HF := Lib.hid hF
    clear hF hz
    go_enter Tryd.func53, Tryd.ntmps53
    go_wp2_with fail
    rw [HV.out]
    go_quiet (fail)
    go_wp2
    go_ret
    exact ⟨by rw [HF.out]; rfl, by repeat (first | exact Below.refl _ _ | apply below_alloc | apply pw_below_drewN | apply below_drew1)⟩
end Go.Proofs.YtjbnihaekgmhlaaDoor
