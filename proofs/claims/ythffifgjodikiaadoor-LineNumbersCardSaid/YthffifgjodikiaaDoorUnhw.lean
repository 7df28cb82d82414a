/- event.Unhex at this translation: its walk. -/
import Derived.Test.YthffifgjodikiaaDoorUnhp
import Derived.Test.YthffifgjodikiaaDoorHexw
import Derived.Deep.QuietTactic
import Derived.BigQuiet
import Derived.IntWalk
import Derived.WalkSmall
import Derived.Laws.BitsLemmas
namespace Go.Proofs.YthffifgjodikiaaDoor
open Go.RowKit
set_option linter.unusedVariables false
set_option linter.unusedSimpArgs false

theorem ixb_any (c : UInt8) (w : World) : Calls Tryd.prog 36 #[.string ⟨#[48, 49, 50, 51, 52, 53, 54, 55, 56, 57, 97, 98, 99, 100, 101, 102]⟩, .int .u8 (c.toNat : Int)] w fun e w' => e = .returned (.int .i64 (ixI c)) ∧ w' = w := by
  refine (Tryd.strings_IndexByte ⟨#[48, 49, 50, 51, 52, 53, 54, 55, 56, 57, 97, 98, 99, 100, 101, 102]⟩ (c.toNat : Int) w).mono ?_
  rintro e w' ⟨rfl, rfl⟩
  refine ⟨?_, rfl⟩
  rw [← ixI_eq c]
  have : (c.toNat : Int).toNat.toUInt8 = c := by simp
  rw [this]
  rfl

theorem two_digits (x y : Nat) (hx : x < 16) (hy : y < 16) : bits .or .i64 ((x : Int) * 16) (y : Int) % 256 = ((UInt8.ofNat (16 * x + y)).toNat : Int) := by
  have h := bits_join .i64 8 (by decide) (fun n h0 h1 => by rw [IntKind.wrap_i64]; omega) 4 ((x : Int) * 16) (y : Int) (by omega) (by omega) (by omega) (by omega) (by omega) (by omega)
  rw [h, UInt8.toNat_ofNat']
  omega

set_option maxHeartbeats 4000000 in
set_option maxRecDepth 1000000 in
theorem Unhex_run (s : ByteArray) (w : World) (hs : s.size ≤ 140737488355327) (h0 : 0 < s.size) (hd : (s.toList == [45]) = false) (h2 : s.size % 2 = 0) :
    Calls Tryd.prog 21 #[.string s] w fun e w' => e = .returned (.tuple #[.string ⟨((unhexP s.data.toList).getD []).toArray⟩, .bool (unhexP s.data.toList).isSome]) ∧ Below w.heap.size w w' := by
  have hne := empty_false s h0
  have he : ((s.size : Int) % 2 != 0) = false := by simp; omega
  have H2 := Lib.hid h2
  clear h2
  go_enter Tryd.func21, Tryd.ntmps21
  go_wp2
  go_loopw [5] (fun i wr => ∃ (k : Nat) (acc : List UInt8), k ≤ s.size ∧ Hid (k % 2 = 0) ∧ i = .int .i64 k ∧ acc.length ≤ k ∧ Hid (unhexP s.data.toList = (unhexP (s.data.toList.drop k)).map (acc ++ ·)) ∧ Lib.IsBuilderF 67 5 w.heap.size w.heap.size (Lib.byteCells acc) wr ∧ Below w.heap.size w wr) (fun i _ => s.size - (intOf i).toNat)
  case atStart => exact ⟨0, [], Nat.zero_le _, Lib.hid rfl, rfl, Nat.le_refl _, Lib.hid (by simp), Lib.IsBuilderF.of (Lib.fresh_isBuilder 67 5 w), (Below.refl _ w).alloc (Nat.le_refl _) _⟩
  case round =>
    obtain ⟨k, acc, hk, HK, rfl, hal, HA, hI, hbw⟩ := hrel
    have hsz : w.heap.size ≤ wr.heap.size := hbw.size
    by_cases hlt : k < s.size
    · have hlt1 : k + 1 < s.size := by have := HK.out; have := H2.out; omega
      have q1 : (k : Int) < (s.size : Int) := by omega
      have q2 : (k : Int) + 1 < (s.size : Int) := by omega
      have q3 : 0 ≤ (k : Int) + 1 := by omega
      have q4 : ((k : Int) + 1).toNat = k + 1 := by omega
      have q5 : IntKind.i64.wrap ((k : Int) + 1) = (k : Int) + 1 := IntWalk.i64_in _ (by omega)
      go_wp2_with fail
      go_quiet ((go_at_call 36; exact Calls.quiet_of_same (ixb_any _ _)))
      have hI2 : Lib.IsBuilderF 67 5 w.heap.size w.heap.size (Lib.byteCells acc) (wr.drewN nq) := hI
      have hbw2 : Below w.heap.size w (wr.drewN nq) := below_drewN hbw nq
      obtain ⟨X, hX⟩ : ∃ X, ixI s[k] = X := ⟨_, rfl⟩
      obtain ⟨Y, hY⟩ : ∃ Y, ixI s[k + 1] = Y := ⟨_, rfl⟩
      rw [hX, hY]
      obtain ⟨b0, hb0⟩ : ∃ b, s[k] = b := ⟨_, rfl⟩
      obtain ⟨b1, hb1⟩ : ∃ b, s[k + 1] = b := ⟨_, rfl⟩
      rw [hb0, hb1]
      rw [hb0] at hX
      rw [hb1] at hY
      have HB0 := Lib.hid hb0
      have HB1 := Lib.hid hb1
      clear hb0 hb1
      clear q1 q2 q3 q4 q5
      by_cases hbad : ix b0 = none ∨ ix b1 = none
      · have hfin := unhex_fail s k hlt1 (by rw [HB0.out, HB1.out]; exact hbad) acc HA.out
        have HF := Lib.hid hfin
        clear hfin
        by_cases hx : X < 0
        · clear hX hY hbad
          go_wp2
          go_ret2
          exact ⟨by rw [HF.out]; rfl, hbw2⟩
        · have hy : Y < 0 := by
            rcases hbad with hb | hb
            · rw [ixI_none hb] at hX; omega
            · rw [ixI_none hb] at hY; omega
          clear hX hY hbad
          go_wp2
          go_ret2
          exact ⟨by rw [HF.out]; rfl, hbw2⟩
      · obtain ⟨x, hx⟩ : ∃ x, ix b0 = some x := by
          cases hq : ix b0 with
          | none => exact absurd (Or.inl hq) hbad
          | some x => exact ⟨x, rfl⟩
        obtain ⟨y, hy⟩ : ∃ y, ix b1 = some y := by
          cases hq : ix b1 with
          | none => exact absurd (Or.inr hq) hbad
          | some y => exact ⟨y, rfl⟩
        have HS := Lib.hid (unhex_step s k hlt1 x y (by rw [HB0.out]; exact hx) (by rw [HB1.out]; exact hy) acc HA.out)
        have hx16 := ix_lt hx
        have hy16 := ix_lt hy
        rw [ixI_some hx] at hX
        rw [ixI_some hy] at hY
        subst hX hY
        clear hx hy hbad
        go_wp2_with fail
        rw [two_digits x y hx16 hy16]
        have e8 : [Value.int .u8 ((UInt8.ofNat (16 * x + y)).toNat : Int)] = Lib.byteCells [UInt8.ofNat (16 * x + y)] := rfl
        have E8 := Lib.hid e8
        clear e8
        refine (Bld.WriteByte w.heap.size w.heap.size _ _ _ hI2 (by rw [Lib.byteCells_length]; omega) hsz).mono ?_
        rintro e W1 ⟨rfl, h1, b1', k1⟩
        rw [E8.out, ← Lib.byteCells_append] at h1
        go_wp2
        go_roundw
        case rel => exact ⟨k + 2, acc ++ [UInt8.ofNat (16 * x + y)], by omega, Lib.hid (by have := HK.out; omega), by go_num, by simp; omega, HS, .inr h1, hbw2.trans b1'⟩
        case measure => simp [intOf]; omega
    · obtain rfl : k = s.size := by omega
      have HF := Lib.hid (unhex_end s acc HA.out)
      go_wp2_with fail
      refine (Tryd.Builder_String_any_k w.heap.size w.heap.size _ _ hI hsz).mono ?_
      rintro e W1 ⟨rfl, _, b1, _⟩
      go_wp2
      go_ret2
      exact ⟨by rw [HF.out]; rfl, hbw.trans b1⟩

theorem eq_iff_data (a : ByteArray) (l : List UInt8) : (a.toList == l) = (a.data.toList == l) := by rw [ByteArray.toList_eq]

set_option maxHeartbeats 400000 in
theorem Unhex_none (w : World) :
    Calls Tryd.prog 21 #[.string ⟨#[45]⟩] w fun e w' => e = .returned (.tuple #[.string ⟨#[]⟩, .bool true]) ∧ Below w.heap.size w w' := by
  go_enter Tryd.func21, Tryd.ntmps21
  go_wp2
  go_ret2
  exact ⟨rfl, Below.refl _ _⟩
set_option maxHeartbeats 400000 in
theorem Unhex_empty (w : World) :
    Calls Tryd.prog 21 #[.string ⟨#[]⟩] w fun e w' => e = .returned (.tuple #[.string ⟨#[]⟩, .bool false]) ∧ Below w.heap.size w w' := by
  go_enter Tryd.func21, Tryd.ntmps21
  go_wp2
  go_ret2
  exact ⟨rfl, Below.refl _ _⟩
set_option maxHeartbeats 400000 in
theorem Unhex_odd (s : ByteArray) (w : World) (hs : s.size ≤ 140737488355327) (h0 : 0 < s.size) (hd : (s.toList == [45]) = false) (h2 : s.size % 2 ≠ 0) :
    Calls Tryd.prog 21 #[.string s] w fun e w' => e = .returned (.tuple #[.string ⟨#[]⟩, .bool false]) ∧ Below w.heap.size w w' := by
  have hne := empty_false s h0
  have he : ((s.size : Int) % 2 != 0) = true := by rw [bne_iff_ne]; omega
  clear h2
  go_enter Tryd.func21, Tryd.ntmps21
  go_wp2
  go_ret2
  exact ⟨rfl, Below.refl _ _⟩

/-- event.Unhex: what it gives. -/
def event_Unhex.f (a0 : ByteArray) : Option (ByteArray × Bool) := if a0.size ≤ 140737488355327 then some (⟨((unhexL a0.data.toList).getD []).toArray⟩, (unhexL a0.data.toList).isSome) else none
theorem event_Unhex.calls (a0 : ByteArray) (r1 : ByteArray) (r2 : Bool) (w : World) (h : event_Unhex.f a0 = some (r1, r2)) :
    Calls Tryd.prog 21 #[.string a0] w fun e w' => e = .returned (.tuple #[.string r1, .bool r2]) ∧ Below w.heap.size w w' := by
  have el : a0.data.toList.length = a0.size := by rw [Array.length_toList]; rfl
  unfold event_Unhex.f at h
  split at h
  · rename_i hs
    simp only [Option.some.injEq, Prod.mk.injEq] at h
    obtain ⟨rfl, rfl⟩ := h
    by_cases hd : a0.data.toList = [45]
    · have e : a0 = ⟨#[45]⟩ := by
        obtain ⟨⟨l⟩⟩ := a0
        subst hd
        rfl
      subst e
      exact Unhex_none w
    · by_cases h0 : 0 < a0.size
      · have hd' : (a0.toList == [45]) = false := by rw [eq_iff_data]; simpa using hd
        have hne : a0.data.toList ≠ [] := fun hq => by rw [hq] at el; simp at el; omega
        by_cases h2 : a0.size % 2 = 0
        · have e : unhexL a0.data.toList = unhexP a0.data.toList := by
            unfold unhexL
            rw [if_neg hd, if_neg (by rw [el]; simp [hne, h2])]
          rw [e]
          exact Unhex_run a0 w hs h0 hd' h2
        · have e : unhexL a0.data.toList = none := by
            unfold unhexL
            rw [if_neg hd, if_pos (by rw [el]; exact .inr h2)]
          rw [e]
          exact Unhex_odd a0 w hs h0 hd' h2
      · have e : a0 = ⟨#[]⟩ := by
          obtain ⟨d⟩ := a0
          have : d.size = 0 := by simpa [ByteArray.size] using h0
          rw [Array.eq_empty_of_size_eq_zero this]
        subst e
        exact Unhex_empty w
  · simp at h
end Go.Proofs.YthffifgjodikiaaDoor
