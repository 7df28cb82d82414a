/- Words out of bytes, the last word's parts. Plain: no walk. -/
import Derived.Test.YtddaecdhielkkaaBytw
import Derived.Test.YtddaecdhielkkaaF53
import Derived.Laws.BitsLemmas
namespace Go.Proofs.Ytddaecdhielkkaa
open Go.RowKit Pr Go.Proofs.YtddaecdhielkkaaW.PrintWords Go.Proofs.YtddaecdhielkkaaW.PrintMore
set_option linter.unusedSimpArgs false
set_option linter.unusedVariables false

theorem bt_at (s : ByteArray) (n : Nat) (h : n < s.size) : bt s (n : Int) = ((s[n]'h).toNat : Int) := by simp [bt, h]
theorem size_mk' (l : List UInt8) : (⟨l.toArray⟩ : ByteArray).size = l.length := by simp [ByteArray.size]
theorem join32 (i : Nat) (x y : Int) (h0 : 0 ≤ x) (hx : x % 2 ^ i = 0) (h1 : x < 4294967296) (y0 : 0 ≤ y) (hy : y < 2 ^ i) (y1 : y < 4294967296) : Go.bits .or .u32 x y = x + y :=
  bits_join .u32 32 (by decide) (fun n h0 h1 => by
    show n % 4294967296 = n
    omega) i x y h0 hx h1 y0 hy y1
theorem four_back (a b c d : Nat) (ha : a < 256) (hb : b < 256) (hc : c < 256) (hd : d < 256) :
    Go.bits .or .u32 (Go.bits .or .u32 (Go.bits .or .u32 ((((a : Int) % 4294967296) * 16777216) % 4294967296) ((((b : Int) % 4294967296) * 65536) % 4294967296)) ((((c : Int) % 4294967296) * 256) % 4294967296)) ((d : Int) % 4294967296) = (a : Int) * 16777216 + (b : Int) * 65536 + (c : Int) * 256 + (d : Int) := by
  rw [show ((((a : Int) % 4294967296) * 16777216) % 4294967296) = (a : Int) * 16777216 by omega, show ((((b : Int) % 4294967296) * 65536) % 4294967296) = (b : Int) * 65536 by omega, show ((((c : Int) % 4294967296) * 256) % 4294967296) = (c : Int) * 256 by omega, show ((d : Int) % 4294967296) = (d : Int) by omega]
  rw [join32 24 ((a : Int) * 16777216) ((b : Int) * 65536) (by omega) (by omega) (by omega) (by omega) (by omega) (by omega)]
  rw [join32 16 ((a : Int) * 16777216 + (b : Int) * 65536) ((c : Int) * 256) (by omega) (by omega) (by omega) (by omega) (by omega) (by omega)]
  rw [join32 8 ((a : Int) * 16777216 + (b : Int) * 65536 + (c : Int) * 256) (d : Int) (by omega) (by omega) (by omega) (by omega) (by omega) (by omega)]
theorem at_four (l : List UInt8) (x : Int) (h0 : 0 ≤ x) (h1 : x < 4294967296) (hl : l.length ≤ 1000000000) : pdu_at.f ⟨(l ++ fourL x).toArray⟩ (l.length : Int) = some x := by
  have hz : (⟨(l ++ fourL x).toArray⟩ : ByteArray).size = l.length + 4 := by rw [size_mk', List.length_append]; rfl
  have e1 : wrap64 ((l.length : Int) + 1) = ((l.length + 1 : Nat) : Int) := by unfold wrap64; omega
  have e2 : wrap64 ((l.length : Int) + 2) = ((l.length + 2 : Nat) : Int) := by unfold wrap64; omega
  have e3 : wrap64 ((l.length : Int) + 3) = ((l.length + 3 : Nat) : Int) := by unfold wrap64; omega
  have g : ∀ j (hj : j < 4), bt (⟨(l ++ fourL x).toArray⟩ : ByteArray) ((l.length + j : Nat) : Int) = (((fourL x)[j]'hj).toNat : Int) := by
    intro j hj
    rw [bt_at _ _ (by omega)]
    congr 2
    show (l ++ fourL x)[l.length + j]'_ = _
    rw [List.getElem_append_right (by omega)]
    congr 1
    omega
  have g0 := g 0 (by omega)
  rw [Nat.add_zero] at g0
  unfold pdu_at.f
  rw [hz, e1, e2, e3, g0, g 1 (by omega), g 2 (by omega), g 3 (by omega)]
  rw [if_pos (by omega), if_pos (by omega), if_pos (by omega), if_pos (by omega), if_pos (by omega), if_pos (by omega), if_pos (by omega), if_pos (by omega)]
  have q0 : 0 < (fourL x).length := (by decide : 0 < 4)
  have q1 : 1 < (fourL x).length := (by decide : 1 < 4)
  have q2 : 2 < (fourL x).length := (by decide : 2 < 4)
  have q3 : 3 < (fourL x).length := (by decide : 3 < 4)
  have fb := four_back ((fourL x)[0]'q0).toNat ((fourL x)[1]'q1).toNat ((fourL x)[2]'q2).toNat ((fourL x)[3]'q3).toNat (UInt8.toNat_lt _) (UInt8.toNat_lt _) (UInt8.toNat_lt _) (UInt8.toNat_lt _)
  refine (congrArg some fb).trans ?_
  simp only [fourL, List.getElem_cons_zero, List.getElem_cons_succ, UInt8.toNat_ofNat']
  congr 1
  omega
theorem take_four (l : List UInt8) (x : Int) (h0 : 0 ≤ x) (h1 : x < 4294967296) (hl : l.length ≤ 1000000000) : pdu_tail_take.f ⟨(l ++ fourL x).toArray⟩ = some (x, ⟨l.toArray⟩) := by
  have hz : (⟨(l ++ fourL x).toArray⟩ : ByteArray).size = l.length + 4 := by rw [size_mk', List.length_append]; rfl
  have e1 : wrap64 (((l.length + 4 : Nat) : Int) - 4) = (l.length : Int) := by unfold wrap64; omega
  unfold pdu_tail_take.f
  rw [hz, e1, at_four l x h0 h1 hl]
  simp only [Option.bind_some]
  rw [if_pos (by omega), if_pos (by omega)]
  congr 2
  have : (⟨(l ++ fourL x).toArray⟩ : ByteArray).extract 0 l.length = ⟨l.toArray⟩ := by
    apply ByteArray.ext
    rw [ByteArray.data_extract]
    simp
  simpa using this

/-! The last word. -/
theorem lastW_sum (kind n : Int) (self : Bool) (pad : Nat) (hk : 0 ≤ kind) (hk1 : kind < 16) (hn : 0 ≤ n) (hn1 : n < 16777216) (hp : pad < 4) : lastW kind n self pad = (pad : Int) * 1073741824 + bitI self * 536870912 + kind * 16777216 + n := by
  have hb : bitI self = 0 ∨ bitI self = 1 := by cases self <;> simp [bitI]
  unfold lastW
  show Go.bits .or .u32 (Go.bits .or .u32 (Go.bits .or .u32 (((pad : Int) % 4294967296 * 1073741824) % 4294967296) ((bitI self * 536870912) % 4294967296)) ((kind % 4294967296 * 16777216) % 4294967296)) n = _
  rw [show (((pad : Int) % 4294967296 * 1073741824) % 4294967296) = (pad : Int) * 1073741824 by omega, show ((bitI self * 536870912) % 4294967296) = bitI self * 536870912 by omega, show ((kind % 4294967296 * 16777216) % 4294967296) = kind * 16777216 by omega]
  rw [join32 30 ((pad : Int) * 1073741824) (bitI self * 536870912) (by omega) (by omega) (by omega) (by omega) (by omega) (by omega)]
  rw [join32 29 ((pad : Int) * 1073741824 + bitI self * 536870912) (kind * 16777216) (by omega) (by omega) (by omega) (by omega) (by omega) (by omega)]
  rw [join32 24 ((pad : Int) * 1073741824 + bitI self * 536870912 + kind * 16777216) n (by omega) (by omega) (by omega) (by omega) (by omega) (by omega)]
theorem and32 (i : Nat) (hi : i ≤ 32) (x : Int) (h0 : 0 ≤ x) (h1 : x < 4294967296) : Go.bits .and .u32 x (2 ^ i - 1) = x % 2 ^ i :=
  bits_mask .u32 32 (by decide) (fun n h0 h1 => by
    show n % 4294967296 = n
    omega) i hi x h0 h1
theorem last_bounds (kind n : Int) (self : Bool) (pad : Nat) (hk : 0 ≤ kind) (hk1 : kind < 16) (hn : 0 ≤ n) (hn1 : n < 16777216) (hp : pad < 4) : 0 ≤ lastW kind n self pad ∧ lastW kind n self pad < 4294967296 := by
  have hb : bitI self = 0 ∨ bitI self = 1 := by cases self <;> simp [bitI]
  rw [lastW_sum kind n self pad hk hk1 hn hn1 hp]
  omega
theorem last_kind (kind n : Int) (self : Bool) (pad : Nat) (hk : 0 ≤ kind) (hk1 : kind < 16) (hn : 0 ≤ n) (hn1 : n < 16777216) (hp : pad < 4) : Go.bits .and .u32 (lastW kind n self pad / 16777216) 15 = kind := by
  have hb : bitI self = 0 ∨ bitI self = 1 := by cases self <;> simp [bitI]
  have := and32 4 (by decide) (lastW kind n self pad / 16777216) (by have := last_bounds kind n self pad hk hk1 hn hn1 hp; omega) (by have := last_bounds kind n self pad hk hk1 hn hn1 hp; omega)
  rw [show ((2 : Int) ^ 4 - 1) = 15 by decide] at this
  rw [this, lastW_sum kind n self pad hk hk1 hn hn1 hp]
  omega
theorem last_n (kind n : Int) (self : Bool) (pad : Nat) (hk : 0 ≤ kind) (hk1 : kind < 16) (hn : 0 ≤ n) (hn1 : n < 16777216) (hp : pad < 4) : Go.bits .and .u32 (lastW kind n self pad) 16777215 = n := by
  have hb : bitI self = 0 ∨ bitI self = 1 := by cases self <;> simp [bitI]
  have hlb := last_bounds kind n self pad hk hk1 hn hn1 hp
  have := and32 24 (by decide) (lastW kind n self pad) hlb.1 hlb.2
  rw [show ((2 : Int) ^ 24 - 1) = 16777215 by decide] at this
  rw [this, lastW_sum kind n self pad hk hk1 hn hn1 hp]
  omega
theorem last_self (kind n : Int) (self : Bool) (pad : Nat) (hk : 0 ≤ kind) (hk1 : kind < 16) (hn : 0 ≤ n) (hn1 : n < 16777216) (hp : pad < 4) : Go.bits .and .u32 (lastW kind n self pad / 536870912) 1 = bitI self := by
  have hb : bitI self = 0 ∨ bitI self = 1 := by cases self <;> simp [bitI]
  have hlb := last_bounds kind n self pad hk hk1 hn hn1 hp
  have := and32 1 (by decide) (lastW kind n self pad / 536870912) (by omega) (by omega)
  rw [show ((2 : Int) ^ 1 - 1) = 1 by decide] at this
  rw [this, lastW_sum kind n self pad hk hk1 hn hn1 hp]
  omega
theorem last_pad (kind n : Int) (self : Bool) (pad : Nat) (hk : 0 ≤ kind) (hk1 : kind < 16) (hn : 0 ≤ n) (hn1 : n < 16777216) (hp : pad < 4) : lastW kind n self pad / 1073741824 = (pad : Int) := by
  have hb : bitI self = 0 ∨ bitI self = 1 := by cases self <;> simp [bitI]
  rw [lastW_sum kind n self pad hk hk1 hn hn1 hp]
  omega
end Go.Proofs.Ytddaecdhielkkaa
