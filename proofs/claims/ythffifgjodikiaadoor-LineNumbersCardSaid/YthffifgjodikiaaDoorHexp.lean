/- Hexadecimal digits: plain lists of bytes, no program. -/
namespace Go.Proofs.YthffifgjodikiaaDoor
/-- A digit. -/
def dig (n : Nat) : UInt8 := if n < 10 then UInt8.ofNat (48 + n) else UInt8.ofNat (87 + n)
def hexP (l : List UInt8) : List UInt8 := l.flatMap fun b => [dig (b.toNat / 16), dig (b.toNat % 16)]
/-- Bytes as they are written. -/
def hexL (l : List UInt8) : List UInt8 := if l = [] then [45] else hexP l
theorem hexP_nil : hexP [] = [] := rfl
theorem hexP_cons (b : UInt8) (l : List UInt8) : hexP (b :: l) = dig (b.toNat / 16) :: dig (b.toNat % 16) :: hexP l := rfl
theorem hexP_append (l m : List UInt8) : hexP (l ++ m) = hexP l ++ hexP m := by simp [hexP]
theorem hexP_length (l : List UInt8) : (hexP l).length = 2 * l.length := by
  induction l with
  | nil => rfl
  | cons b l ih => rw [hexP_cons]; simp [ih]; omega
theorem hexL_le (s : ByteArray) : (hexL s.data.toList).length ≤ 2 * s.size + 1 := by
  have e : s.data.toList.length = s.size := by rw [Array.length_toList]; rfl
  unfold hexL
  split
  · simp
  · rw [hexP_length, e]; omega
theorem take_snoc (s : ByteArray) (k : Nat) (h : k < s.size) : s.data.toList.take (k + 1) = s.data.toList.take k ++ [s[k]] := by
  rw [List.take_succ_eq_append_getElem (by simpa using h)]; rfl
theorem hexP_snoc (s : ByteArray) (k : Nat) (h : k < s.size) : hexP (s.data.toList.take (k + 1)) = (hexP (s.data.toList.take k) ++ [dig (s[k].toNat / 16)]) ++ [dig (s[k].toNat % 16)] := by
  rw [take_snoc s k h, hexP_append, List.append_assoc]; rfl
/-- The letters of a digit. -/
def digs : ByteArray := ⟨#[48, 49, 50, 51, 52, 53, 54, 55, 56, 57, 97, 98, 99, 100, 101, 102]⟩
theorem digs_at (n : Nat) (h : n < 16) : digs[n]'(by exact h) = dig n := by
  have : ∀ m : Fin 16, digs[m.val]'(by exact m.isLt) = dig m.val := by decide
  exact this ⟨n, h⟩
theorem digs_nat (n : Nat) (h : n < 16) (h' : n < digs.size) : (digs[n]'h').toNat = (dig n).toNat := congrArg UInt8.toNat (digs_at n h)
theorem byte_bd (s : ByteArray) (k : Nat) (h : k < s.size) : s[k].toNat < 256 := s[k].toNat_lt
end Go.Proofs.YthffifgjodikiaaDoor
