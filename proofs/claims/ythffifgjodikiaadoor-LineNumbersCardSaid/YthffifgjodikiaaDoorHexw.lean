/- event.Hex at this translation: its walk. -/
import Derived.Test.YthffifgjodikiaaDoorHexp
import Derived.Test.YthffifgjodikiaaDoorBld
import Derived.WalkKit
import Derived.BigCall
namespace Go.Proofs.YthffifgjodikiaaDoor
open Go.RowKit
set_option linter.unusedVariables false
set_option linter.unusedSimpArgs false

theorem empty_false (s : ByteArray) (h0 : 0 < s.size) : s.toList.isEmpty = false := by
  rw [ByteArray.toList_eq]
  have : s.data.toList.length = s.size := by rw [Array.length_toList]; rfl
  cases hq : s.data.toList with
  | nil => rw [hq] at this; simp at this; omega
  | cons => rfl

theorem cells_snoc (s : ByteArray) (k : Nat) (h : k < s.size) (h1 : s[k].toNat / 16 < digs.size) (h2 : s[k].toNat % 16 < digs.size) :
    Lib.byteCells (hexP (s.data.toList.take (k + 1))) = (Lib.byteCells (hexP (s.data.toList.take k)) ++ [.int .u8 ((digs[s[k].toNat / 16]'h1).toNat : Int)]) ++ [.int .u8 ((digs[s[k].toNat % 16]'h2).toNat : Int)] := by
  have hb := byte_bd s k h
  rw [digs_nat _ (by omega) h1, digs_nat _ (by omega) h2, hexP_snoc s k h, Lib.byteCells_append, Lib.byteCells_append]
  rfl

set_option maxHeartbeats 4000000 in
set_option maxRecDepth 1000000 in
theorem Hex_full (s : ByteArray) (w : World) (hs : s.size ≤ 70368744177664) (h0 : 0 < s.size) :
    Calls Tryd.prog 22 #[.string s] w fun e w' => e = .returned (.string ⟨(hexP s.data.toList).toArray⟩) ∧ Below w.heap.size w w' := by
  have hne := empty_false s h0
  go_enter Tryd.func22, Tryd.ntmps22
  go_wp2
  go_loopw [9] (fun i wr => ∃ k : Nat, k ≤ s.size ∧ i = .int .i64 k ∧ Lib.IsBuilderF 67 5 w.heap.size w.heap.size (Lib.byteCells (hexP (s.data.toList.take k))) wr ∧ Below w.heap.size w wr) (fun i _ => s.size - (intOf i).toNat)
  case atStart => exact ⟨0, Nat.zero_le _, rfl, Lib.IsBuilderF.of (Lib.fresh_isBuilder 67 5 w), (Below.refl _ w).alloc (Nat.le_refl _) _⟩
  case round =>
    obtain ⟨k, hk, rfl, hI, hbw⟩ := hrel
    have hsz : w.heap.size ≤ wr.heap.size := hbw.size
    by_cases hlt : k < s.size
    · have hln : (Lib.byteCells (hexP (s.data.toList.take k))).length ≤ 2 * k := by
        rw [Lib.byteCells_length, hexP_length, List.length_take]; omega
      have hb := byte_bd s k hlt
      go_wp2_with fail
      refine (Bld.WriteByte w.heap.size w.heap.size _ _ _ hI (by omega) hsz).mono ?_
      rintro e W1 ⟨rfl, h1, b1, k1⟩
      have hsz1 : w.heap.size ≤ W1.heap.size := Nat.le_trans hsz b1.size
      go_wp2_with fail
      refine (Bld.WriteByte w.heap.size w.heap.size _ _ _ (.inr h1) (by simp; omega) hsz1).mono ?_
      rintro e W2 ⟨rfl, h2, b2, k2⟩
      go_wp2
      go_roundw
      case rel => exact ⟨k + 1, by omega, by go_num, by rw [cells_snoc s k hlt (by show _ < 16; omega) (by show _ < 16; omega)]; exact .inr h2, (hbw.trans b1).trans b2⟩
      case measure => simp [intOf]; omega
    · go_wp2_with fail
      refine (Tryd.Builder_String_any_k w.heap.size w.heap.size _ _ hI hsz).mono ?_
      rintro e W1 ⟨rfl, _, b1, _⟩
      go_wp2
      go_ret
      exact ⟨by rw [List.take_of_length_le (by simp; show s.size ≤ k; omega)]; rfl, hbw.trans b1⟩

set_option maxHeartbeats 400000 in
theorem Hex_empty (w : World) :
    Calls Tryd.prog 22 #[.string ⟨#[]⟩] w fun e w' => e = .returned (.string ⟨#[45]⟩) ∧ Below w.heap.size w w' := by
  go_enter Tryd.func22, Tryd.ntmps22
  go_wp2
  go_ret
  exact ⟨rfl, Below.refl _ _⟩

/-- event.Hex: what it gives. -/
def event_Hex.f (a0 : ByteArray) : Option ByteArray := if a0.size ≤ 70368744177664 then some ⟨(hexL a0.data.toList).toArray⟩ else none
theorem event_Hex.calls (a0 : ByteArray) (r : ByteArray) (w : World) (h : event_Hex.f a0 = some r) :
    Calls Tryd.prog 22 #[.string a0] w fun e w' => e = .returned (.string r) ∧ Below w.heap.size w w' := by
  unfold event_Hex.f at h
  split at h
  · rename_i hs
    obtain rfl := Option.some.inj h
    by_cases h0 : 0 < a0.size
    · have e : hexL a0.data.toList = hexP a0.data.toList := by
        unfold hexL
        rw [if_neg]
        intro hq
        have : a0.data.toList.length = a0.size := by rw [Array.length_toList]; rfl
        rw [hq] at this
        simp at this
        omega
      rw [e]
      exact Hex_full a0 w hs h0
    · have e : a0 = ⟨#[]⟩ := by
        obtain ⟨d⟩ := a0
        have : d.size = 0 := by simpa [ByteArray.size] using h0
        rw [Array.eq_empty_of_size_eq_zero this]
      subst e
      exact Hex_empty w
  · simp at h
end Go.Proofs.YthffifgjodikiaaDoor
