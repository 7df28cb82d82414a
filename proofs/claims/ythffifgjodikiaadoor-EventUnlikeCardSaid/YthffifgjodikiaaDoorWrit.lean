/- polliwoglaw10.written at this translation: are these bytes, as they are written. -/
import Derived.Test.YthffifgjodikiaaDoorUnhp
import Derived.Test.YthffifgjodikiaaDoorHexw
import Derived.Deep.QuietTactic
import Derived.BigQuiet
import Derived.WalkSmall
import Derived.Lib.ConvBytes
import Derived.Lib.AtoiErrMem
import Derived.WalkLawsBesides
namespace Go.Proofs.YthffifgjodikiaaDoor
open Go.RowKit
set_option linter.unusedVariables false
set_option linter.unusedSimpArgs false

/-- Is it a digit? -/
def isDig (b : UInt8) : Bool := (ix b).isSome
theorem isDig_eq (b : UInt8) : isDig b = !((decide (b.toNat < 48) || decide (57 < b.toNat)) && (decide (b.toNat < 97) || decide (102 < b.toNat))) := by
  have h : ∀ n : Fin 256, isDig (UInt8.ofNat n.val) = !((decide ((UInt8.ofNat n.val).toNat < 48) || decide (57 < (UInt8.ofNat n.val).toNat)) && (decide ((UInt8.ofNat n.val).toNat < 97) || decide (102 < (UInt8.ofNat n.val).toNat))) := by decide +kernel
  have e : UInt8.ofNat b.toNat = b := by simp
  have := h ⟨b.toNat, b.toNat_lt⟩
  simpa [e] using this
/-- What the walk's last way says, for a text that is not the none mark. -/
def writR (s : ByteArray) : Bool := s.data.toList.all isDig && s.data.toList != [] && s.size % 2 == 0
theorem writR_false (s : ByteArray) (k : Nat) (h : k < s.size) (hd : isDig s[k] = false) : writR s = false := by
  have : s.data.toList.all isDig = false := by
    rw [List.all_eq_false]
    exact ⟨s[k], Array.getElem_mem_toList .., by simp [hd]⟩
  unfold writR
  rw [this]
  rfl
theorem writR_end (s : ByteArray) (h : s.data.toList.all isDig = true) : writR s = (s.data.toList != [] && s.size % 2 == 0) := by
  unfold writR
  rw [h]
  rfl
def writB (l : List UInt8) : Bool := l == [45] || (l.all isDig && l != [] && l.length % 2 == 0)

set_option maxHeartbeats 4000000 in
set_option maxRecDepth 1000000 in
theorem written_run (s : ByteArray) (w : World) (hs : s.size ≤ 140737488351232) (hd : (s.toList == [45]) = false) :
    Calls Tryd.prog 24 #[.string s] w fun e w' => e = .returned (.bool (writR s)) ∧ Below w.heap.size w w' := by
  have el : s.data.toList.length = s.size := by rw [Array.length_toList]; rfl
  have hcv0 := Lib.run_convert_string_bytes (P := Tryd.prog) w 9 38 5 s Tryd.underlying9 Tryd.underlying38 Tryd.underlying5
  have hbw := Lib.bytesWorld_below w 5 s
  have hc0 : ∀ k : Nat, (h : k < s.size) → (Lib.bytesWorld w 5 s).cell? ⟨w.heap.size, k, none⟩ = some (.int .u8 (s[k].toNat : Int)) := by
    intro k h
    rw [Lib.bytesWorld_cell w 5 s k h]
    have : s.data.toList.getD k 0 = s[k] := by
      rw [List.getD_eq_getElem?_getD, List.getElem?_eq_getElem (by omega)]
      rfl
    rw [this]
  generalize Lib.bytesWorld w 5 s = wb at hcv0 hbw hc0
  generalize hcp : grownCap w s.size 0 5 = cp at hcv0
  clear hcp
  have HC := Lib.hid hc0
  clear hc0
  go_enter Tryd.func24, Tryd.ntmps24
  go_wp2
  go_loop [10] (fun i => ∃ k : Nat, k ≤ s.size ∧ i = .int .i64 k ∧ Hid ((s.data.toList.take k).all isDig = true)) (fun i => s.size - (intOf i).toNat)
  case atStart => exact ⟨0, Nat.zero_le _, rfl, Lib.hid (by simp)⟩
  case round =>
    obtain ⟨k, hk, rfl, HA⟩ := hrel
    by_cases hlt : k < s.size
    · have hcell := HC.out k hlt
      have hb := byte_bd s k hlt
      have HT := Lib.hid (take_snoc s k hlt)
      have hall := writR_false s k hlt
      obtain ⟨c, hcq⟩ : ∃ c, s[k] = c := ⟨_, rfl⟩
      rw [hcq] at hcell hb hall
      have HQ := Lib.hid hcq
      clear hcq
      have HD := Lib.hid (isDig_eq c)
      have HL := Lib.hid hall
      clear hall
      obtain ⟨n, hn⟩ : ∃ n, c.toNat = n := ⟨_, rfl⟩
      rw [hn] at hcell hb
      have HN := Lib.hid hn
      clear hn
      have hz : n < 48 ∨ (48 ≤ n ∧ n ≤ 57) ∨ (57 < n ∧ n < 97) ∨ (97 ≤ n ∧ n ≤ 102) ∨ 102 < n := by omega
      rcases hz with hz | ⟨hz, hz2⟩ | ⟨hz, hz2⟩ | ⟨hz, hz2⟩ | hz
      · have hx : isDig c = false := by rw [HD.out, HN.out]; simp; omega
        have HF := Lib.hid (HL.out hx)
        go_wp2
        go_ret
        exact ⟨by rw [HF.out]; rfl, hbw⟩
      · have hx : isDig c = true := by rw [HD.out, HN.out]; simp; omega
        have HX := Lib.hid hx
        clear hx
        go_wp2
        go_round
        case rel => exact ⟨k + 1, by omega, by go_num, Lib.hid (by rw [HT.out, List.all_append, HA.out]; simp [HQ.out, HX.out])⟩
        case measure => simp [intOf]; omega
      · have hx : isDig c = false := by rw [HD.out, HN.out]; simp; omega
        have HF := Lib.hid (HL.out hx)
        go_wp2
        go_ret
        exact ⟨by rw [HF.out]; rfl, hbw⟩
      · have hx : isDig c = true := by rw [HD.out, HN.out]; simp; omega
        have HX := Lib.hid hx
        clear hx
        go_wp2
        go_round
        case rel => exact ⟨k + 1, by omega, by go_num, Lib.hid (by rw [HT.out, List.all_append, HA.out]; simp [HQ.out, HX.out])⟩
        case measure => simp [intOf]; omega
      · have hx : isDig c = false := by rw [HD.out, HN.out]; simp; omega
        have HF := Lib.hid (HL.out hx)
        go_wp2
        go_ret
        exact ⟨by rw [HF.out]; rfl, hbw⟩
    · have hall : s.data.toList.all isDig = true := by
        have := HA.out
        rw [List.take_of_length_le (by omega)] at this
        exact this
      have HF := Lib.hid (writR_end s hall)
      clear hall
      by_cases h0 : 0 < s.size
      · have hne := empty_false s h0
        have h0' : (s.data.toList != []) = true := by
          have : s.data.toList ≠ [] := fun hq => by rw [hq] at el; simp at el; omega
          simpa using this
        have H0 := Lib.hid h0'
        clear h0'
        by_cases h2 : s.size % 2 = 0
        · have he : ((s.size : Int) % 2 == 0) = true := by rw [beq_iff_eq]; omega
          have H2 := Lib.hid h2
          clear h2
          go_wp2
          go_ret
          exact ⟨by rw [HF.out, H0.out, H2.out]; rfl, hbw⟩
        · have he : ((s.size : Int) % 2 == 0) = false := by rw [beq_eq_false_iff_ne]; omega
          have H2 : Hid ((s.size % 2 == 0) = false) := Lib.hid (by rw [beq_eq_false_iff_ne]; exact h2)
          clear h2
          go_wp2
          go_ret
          exact ⟨by rw [HF.out, H0.out, H2.out]; rfl, hbw⟩
      · have hz : s.data.toList = [] := List.eq_nil_of_length_eq_zero (by omega)
        have he : s.toList.isEmpty = true := by rw [ByteArray.toList_eq, hz]; rfl
        have HZ := Lib.hid hz
        clear hz
        go_wp2
        go_ret
        exact ⟨by rw [HF.out, HZ.out]; rfl, hbw⟩

set_option maxHeartbeats 400000 in
theorem written_none (w : World) :
    Calls Tryd.prog 24 #[.string ⟨#[45]⟩] w fun e w' => e = .returned (.bool true) ∧ Below w.heap.size w w' := by
  go_enter Tryd.func24, Tryd.ntmps24
  go_wp2
  go_ret
  exact ⟨rfl, Below.refl _ _⟩

/-- polliwoglaw10.written: what it gives. -/
def polliwoglaw10_written.f (a0 : ByteArray) : Option Bool := if a0.size ≤ 140737488351232 then some (writB a0.data.toList) else none
theorem polliwoglaw10_written.calls (a0 : ByteArray) (r : Bool) (w : World) (h : polliwoglaw10_written.f a0 = some r) :
    Calls Tryd.prog 24 #[.string a0] w fun e w' => e = .returned (.bool r) ∧ Below w.heap.size w w' := by
  have el : a0.data.toList.length = a0.size := by rw [Array.length_toList]; rfl
  unfold polliwoglaw10_written.f at h
  split at h
  · rename_i hs
    simp only [Option.some.injEq] at h
    subst h
    by_cases hd : a0.data.toList = [45]
    · have e : a0 = ⟨#[45]⟩ := by
        obtain ⟨⟨l⟩⟩ := a0
        subst hd
        rfl
      subst e
      exact written_none w
    · have hd' : (a0.data.toList == [45]) = false := by simpa using hd
      have e : writB a0.data.toList = writR a0 := by
        unfold writB writR
        rw [hd', el]
        rfl
      rw [e]
      exact written_run a0 w hs (by rw [ByteArray.toList_eq]; exact hd')
  · simp at h
end Go.Proofs.YthffifgjodikiaaDoor
