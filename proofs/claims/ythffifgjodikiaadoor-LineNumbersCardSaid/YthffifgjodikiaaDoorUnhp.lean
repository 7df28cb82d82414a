/- Reading hexadecimal digits back: plain lists of bytes, no program. -/
import Derived.Test.YthffifgjodikiaaDoorHexp
import Derived.Lib.Bytealg
namespace Go.Proofs.YthffifgjodikiaaDoor
/-- A digit's number. -/
def ix (b : UInt8) : Option Nat := if 48 ≤ b.toNat ∧ b.toNat ≤ 57 then some (b.toNat - 48) else if 97 ≤ b.toNat ∧ b.toNat ≤ 102 then some (b.toNat - 87) else none
def ixI (b : UInt8) : Int := match ix b with | some n => (n : Int) | none => -1
/-- What two digits each say. -/
def unhexP : List UInt8 → Option (List UInt8)
  | [] => some []
  | [_] => none
  | a :: b :: r => match ix a, ix b with
    | some x, some y => (unhexP r).map (UInt8.ofNat (16 * x + y) :: ·)
    | _, _ => none
/-- What a word says. -/
def unhexL (l : List UInt8) : Option (List UInt8) := if l = [45] then some [] else if l = [] ∨ l.length % 2 ≠ 0 then none else unhexP l
theorem ixI_eq (b : UInt8) : Lib.indexByte digs.data.toList b = ixI b := by
  have h : ∀ n : Fin 256, Lib.indexByte digs.data.toList (UInt8.ofNat n.val) = ixI (UInt8.ofNat n.val) := by decide +kernel
  have e : UInt8.ofNat b.toNat = b := by simp
  have := h ⟨b.toNat, b.toNat_lt⟩
  simpa [e] using this
theorem ix_lt {b : UInt8} {n : Nat} (h : ix b = some n) : n < 16 := by
  unfold ix at h
  split at h
  · simp at h; omega
  · split at h
    · simp at h; omega
    · simp at h
theorem ixI_some {b : UInt8} {n : Nat} (h : ix b = some n) : ixI b = n := by unfold ixI; rw [h]
theorem ixI_none {b : UInt8} (h : ix b = none) : ixI b = -1 := by unfold ixI; rw [h]
theorem drop_two (s : ByteArray) (k : Nat) (h : k + 1 < s.size) : s.data.toList.drop k = s[k]'(by omega) :: s[k + 1] :: s.data.toList.drop (k + 2) := by
  have e : s.data.toList.length = s.size := by rw [Array.length_toList]; rfl
  rw [List.drop_eq_getElem_cons (by omega), List.drop_eq_getElem_cons (i := k + 1) (by omega)]
  rfl
/-- A round: two digits more. -/
theorem unhex_step (s : ByteArray) (k : Nat) (h : k + 1 < s.size) (x y : Nat) (hx : ix (s[k]'(by omega)) = some x) (hy : ix s[k + 1] = some y) (acc : List UInt8)
    (ha : unhexP s.data.toList = (unhexP (s.data.toList.drop k)).map (acc ++ ·)) :
    unhexP s.data.toList = (unhexP (s.data.toList.drop (k + 2))).map ((acc ++ [UInt8.ofNat (16 * x + y)]) ++ ·) := by
  rw [ha, drop_two s k h, unhexP, hx, hy]
  simp only [Option.map_map]
  congr 1
  funext z
  simp
theorem unhex_fail (s : ByteArray) (k : Nat) (h : k + 1 < s.size) (hx : ix (s[k]'(by omega)) = none ∨ ix s[k + 1] = none) (acc : List UInt8)
    (ha : unhexP s.data.toList = (unhexP (s.data.toList.drop k)).map (acc ++ ·)) : unhexP s.data.toList = none := by
  rw [ha, drop_two s k h, unhexP]
  rcases hx with hx | hx
  · rw [hx]; rfl
  · rw [hx]; cases ix (s[k]'(by omega)) <;> rfl
theorem unhex_end (s : ByteArray) (acc : List UInt8) (ha : unhexP s.data.toList = (unhexP (s.data.toList.drop s.size)).map (acc ++ ·)) : unhexP s.data.toList = some acc := by
  have e : s.data.toList.length = s.size := by rw [Array.length_toList]; rfl
  rw [ha, List.drop_of_length_le (by omega)]
  simp [unhexP]
end Go.Proofs.YthffifgjodikiaaDoor
