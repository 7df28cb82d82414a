/- event.Signal.Text at this translation: its walk. -/
import Derived.Test.YthffifgjodikiaaDoorTxtp
import Derived.Test.YthffifgjodikiaaDoorHexw
import Derived.WalkLawsBesides
import Derived.WalkSpells
import Derived.Lib.AppendIntMem
import Derived.Lib.ItoaLen
import Derived.Laws.BytesArg
import Derived.Maps.AppendAt
namespace Go.Proofs.YthffifgjodikiaaDoor
open Go.RowKit
set_option linter.unusedVariables false
set_option linter.unusedSimpArgs false

theorem data_app (a b : ByteArray) : (a ++ b).data.toList = a.data.toList ++ b.data.toList := by
  obtain ⟨a⟩ := a
  obtain ⟨b⟩ := b
  rw [ByteArray.mk_append_mk]
theorem byte_str (w : World) (c : Int) (X : Obj) : (convert 38 9 (.slice (some ⟨w.heap.size + 1, 0, none⟩) 1 1)).run Tryd.prog ((w.alloc X).alloc (.cells #[.int .u8 c] 5)) = .ok (.string ⟨#[UInt8.ofNat c.toNat]⟩) ((w.alloc X).alloc (.cells #[.int .u8 c] 5)) := by
  have := run_convert_bytes_arg (P := Tryd.prog) ((w.alloc X).alloc (.cells #[.int .u8 c] 5)) 38 5 Tryd.underlying38 Tryd.underlying5 (w.heap.size + 1) 0 1 1 [c] rfl (fun i hi => by
    obtain rfl : i = 0 := by omega
    have h := cell_one_new (w.alloc X) (.int .u8 c) 5
    simp at h ⊢) 9 Tryd.underlying9
  simp [strOfNums] at this
  exact this
theorem ret_str {a : ByteArray} {l : List UInt8} (h : a.data.toList = l) : Ending.returned (.string a) = .returned (.string ⟨l.toArray⟩) := by
  obtain ⟨d⟩ := a
  subst h
  simp

set_option maxHeartbeats 4000000 in
set_option maxRecDepth 1000000 in
theorem Text_mid (k : Int) (d : ByteArray) (self : Bool) (c n : Int) (w : World) (hG : GTab w) (hd : d.size ≤ 4096) (hk : k = 1 ∨ k = 5 ∨ k = 8 ∨ k = 9 ∨ k = 10 ∨ k = 11) :
    Calls Tryd.prog 18 #[.agg #[.int .i64 k, .string d, .bool self, .int .u8 c, .int .i64 n]] w fun e w' => e = .returned (.string ⟨(textL k d.data.toList self c n).toArray⟩) ∧ Below w.heap.size w w' := by
  have hx : event_Hex.f d = some ⟨(hexL d.data.toList).toArray⟩ := by unfold event_Hex.f; rw [if_pos (by omega)]
  have HX := Lib.hid hx
  clear hx
  have hl := hexL_le d
  rcases hk with rfl | rfl | rfl | rfl | rfl | rfl
  · have c1 := hG.words 1 _ rfl
    have z0 : 0 < w.heap.size := World.block_lt_of_cell? w _ c1
    go_enter Tryd.func18, Tryd.ntmps18
    go_wp2_with fail
    refine (event_Hex.calls d _ _ HX.out).mono ?_
    rintro e w1 ⟨rfl, hb⟩
    go_wp2
    go_ret
    exact ⟨ret_str (by simp [data_app, textL, wordAt, wordsL]), ((Below.refl _ _).alloc (Nat.le_refl _) _).trans (hb.mono (by simp))⟩
  · have c1 := hG.words 5 _ rfl
    have z0 : 0 < w.heap.size := World.block_lt_of_cell? w _ c1
    go_enter Tryd.func18, Tryd.ntmps18
    go_wp2_with fail
    refine (event_Hex.calls d _ _ HX.out).mono ?_
    rintro e w1 ⟨rfl, hb⟩
    go_wp2
    go_ret
    exact ⟨ret_str (by simp [data_app, textL, wordAt, wordsL]), ((Below.refl _ _).alloc (Nat.le_refl _) _).trans (hb.mono (by simp))⟩
  · have c1 := hG.words 8 _ rfl
    have z0 : 0 < w.heap.size := World.block_lt_of_cell? w _ c1
    go_enter Tryd.func18, Tryd.ntmps18
    go_wp2_with fail
    refine (event_Hex.calls d _ _ HX.out).mono ?_
    rintro e w1 ⟨rfl, hb⟩
    go_wp2
    go_ret
    exact ⟨ret_str (by simp [data_app, textL, wordAt, wordsL]), ((Below.refl _ _).alloc (Nat.le_refl _) _).trans (hb.mono (by simp))⟩
  · have c1 := hG.words 9 _ rfl
    have z0 : 0 < w.heap.size := World.block_lt_of_cell? w _ c1
    go_enter Tryd.func18, Tryd.ntmps18
    go_wp2_with fail
    refine (event_Hex.calls d _ _ HX.out).mono ?_
    rintro e w1 ⟨rfl, hb⟩
    go_wp2
    go_ret
    exact ⟨ret_str (by simp [data_app, textL, wordAt, wordsL]), ((Below.refl _ _).alloc (Nat.le_refl _) _).trans (hb.mono (by simp))⟩
  · have c1 := hG.words 10 _ rfl
    have z0 : 0 < w.heap.size := World.block_lt_of_cell? w _ c1
    go_enter Tryd.func18, Tryd.ntmps18
    go_wp2_with fail
    refine (event_Hex.calls d _ _ HX.out).mono ?_
    rintro e w1 ⟨rfl, hb⟩
    go_wp2
    go_ret
    exact ⟨ret_str (by simp [data_app, textL, wordAt, wordsL]), ((Below.refl _ _).alloc (Nat.le_refl _) _).trans (hb.mono (by simp))⟩
  · have c1 := hG.words 11 _ rfl
    have z0 : 0 < w.heap.size := World.block_lt_of_cell? w _ c1
    go_enter Tryd.func18, Tryd.ntmps18
    go_wp2_with fail
    refine (event_Hex.calls d _ _ HX.out).mono ?_
    rintro e w1 ⟨rfl, hb⟩
    go_wp2
    go_ret
    exact ⟨ret_str (by simp [data_app, textL, wordAt, wordsL]), ((Below.refl _ _).alloc (Nat.le_refl _) _).trans (hb.mono (by simp))⟩

set_option maxHeartbeats 4000000 in
set_option maxRecDepth 1000000 in
theorem Text_bare (k : Int) (d : ByteArray) (self : Bool) (c n : Int) (w : World) (hG : GTab w) (hk : k = 2 ∨ k = 4 ∨ k = 6 ∨ k = 7) :
    Calls Tryd.prog 18 #[.agg #[.int .i64 k, .string d, .bool self, .int .u8 c, .int .i64 n]] w fun e w' => e = .returned (.string ⟨(textL k d.data.toList self c n).toArray⟩) ∧ Below w.heap.size w w' := by
  rcases hk with rfl | rfl | rfl | rfl
  · have c1 := hG.words 2 _ rfl
    have z0 : 0 < w.heap.size := World.block_lt_of_cell? w _ c1
    go_enter Tryd.func18, Tryd.ntmps18
    go_wp2
    go_ret
    exact ⟨ret_str (by simp [textL, wordAt, wordsL]), (Below.refl _ _).alloc (Nat.le_refl _) _⟩
  · have c1 := hG.words 4 _ rfl
    have z0 : 0 < w.heap.size := World.block_lt_of_cell? w _ c1
    go_enter Tryd.func18, Tryd.ntmps18
    go_wp2
    go_ret
    exact ⟨ret_str (by simp [textL, wordAt, wordsL]), (Below.refl _ _).alloc (Nat.le_refl _) _⟩
  · have c1 := hG.words 6 _ rfl
    have z0 : 0 < w.heap.size := World.block_lt_of_cell? w _ c1
    go_enter Tryd.func18, Tryd.ntmps18
    go_wp2
    go_ret
    exact ⟨ret_str (by simp [textL, wordAt, wordsL]), (Below.refl _ _).alloc (Nat.le_refl _) _⟩
  · have c1 := hG.words 7 _ rfl
    have z0 : 0 < w.heap.size := World.block_lt_of_cell? w _ c1
    go_enter Tryd.func18, Tryd.ntmps18
    go_wp2
    go_ret
    exact ⟨ret_str (by simp [textL, wordAt, wordsL]), (Below.refl _ _).alloc (Nat.le_refl _) _⟩

set_option maxHeartbeats 4000000 in
set_option maxRecDepth 1000000 in
theorem Text_release (k : Int) (d : ByteArray) (self : Bool) (c n : Int) (w : World) (hG : GTab w) (hd : d.size ≤ 4096) (hk : k = 3) :
    Calls Tryd.prog 18 #[.agg #[.int .i64 k, .string d, .bool self, .int .u8 c, .int .i64 n]] w fun e w' => e = .returned (.string ⟨(textL k d.data.toList self c n).toArray⟩) ∧ Below w.heap.size w w' := by
  have hx : event_Hex.f d = some ⟨(hexL d.data.toList).toArray⟩ := by unfold event_Hex.f; rw [if_pos (by omega)]
  have HX := Lib.hid hx
  clear hx
  have hl := hexL_le d
  subst hk
  cases self
  · have c1 := hG.words 3 _ rfl
    have z0 : 0 < w.heap.size := World.block_lt_of_cell? w _ c1
    go_enter Tryd.func18, Tryd.ntmps18
    go_wp2_with fail
    refine (event_Hex.calls d _ _ HX.out).mono ?_
    rintro e w1 ⟨rfl, hb⟩
    go_wp2
    go_ret
    exact ⟨ret_str (by simp [data_app, textL, wordAt, wordsL]), ((Below.refl _ _).alloc (Nat.le_refl _) _).trans (hb.mono (by simp))⟩
  · have c1 := hG.words 3 _ rfl
    have z0 : 0 < w.heap.size := World.block_lt_of_cell? w _ c1
    go_enter Tryd.func18, Tryd.ntmps18
    go_wp2_with fail
    refine (event_Hex.calls d _ _ HX.out).mono ?_
    rintro e w1 ⟨rfl, hb⟩
    go_wp2
    go_ret
    exact ⟨ret_str (by simp [data_app, textL, wordAt, wordsL]), ((Below.refl _ _).alloc (Nat.le_refl _) _).trans (hb.mono (by simp))⟩

set_option maxHeartbeats 4000000 in
set_option maxRecDepth 1000000 in
theorem Text_none (k : Int) (d : ByteArray) (self : Bool) (c n : Int) (w : World) (hG : GTab w) (hk : k < 1 ∨ 12 < k) :
    Calls Tryd.prog 18 #[.agg #[.int .i64 k, .string d, .bool self, .int .u8 c, .int .i64 n]] w fun e w' => e = .returned (.string ⟨(textL k d.data.toList self c n).toArray⟩) ∧ Below w.heap.size w w' := by
  have e : textL k d.data.toList self c n = [] := by unfold textL; rw [if_pos hk]
  have E := Lib.hid e
  clear e
  rcases hk with hk | hk
  · have h1 : decide (k < 1) = true := by simpa using hk
    go_enter Tryd.func18, Tryd.ntmps18
    go_wp2
    go_ret
    exact ⟨by rw [E.out]; rfl, (Below.refl _ _).alloc (Nat.le_refl _) _⟩
  · have h1 : decide (k < 1) = false := by simp; omega
    go_enter Tryd.func18, Tryd.ntmps18
    go_wp2
    go_ret
    exact ⟨by rw [E.out]; rfl, (Below.refl _ _).alloc (Nat.le_refl _) _⟩

set_option maxHeartbeats 4000000 in
set_option maxRecDepth 1000000 in
theorem Text_code (d : ByteArray) (self : Bool) (c n : Int) (w : World) (hG : GTab w) (hc : 0 ≤ c ∧ c < 256) (h86 : (c == 86) = false) :
    Calls Tryd.prog 18 #[.agg #[.int .i64 12, .string d, .bool self, .int .u8 c, .int .i64 n]] w fun e w' => e = .returned (.string ⟨(textL 12 d.data.toList self c n).toArray⟩) ∧ Below w.heap.size w w' := by
  obtain ⟨hc0, hc1⟩ := hc
  have c1 := hG.words 12 _ rfl
  have z0 : 0 < w.heap.size := World.block_lt_of_cell? w _ c1
  have hcv := byte_str w c
  go_enter Tryd.func18, Tryd.ntmps18
  go_wp2
  go_ret
  have h86' : ¬ c = 86 := by simpa using h86
  exact ⟨ret_str (by simp [data_app, textL, wordAt, wordsL, h86']), ((Below.refl _ _).alloc (Nat.le_refl _) _).alloc (by simp) _⟩

set_option maxHeartbeats 4000000 in
set_option maxRecDepth 1000000 in
theorem Text_V (d : ByteArray) (self : Bool) (n : Int) (w : World) (hG : GTab w) (h0 : -9223372036854775808 ≤ n) (h1 : n ≤ 9223372036854775807) :
    Calls Tryd.prog 18 #[.agg #[.int .i64 12, .string d, .bool self, .int .u8 86, .int .i64 n]] w fun e w' => e = .returned (.string ⟨(textL 12 d.data.toList self 86 n).toArray⟩) ∧ Below w.heap.size w w' := by
  have c1 := hG.words 12 _ rfl
  have z0 : 0 < w.heap.size := World.block_lt_of_cell? w _ c1
  have hcv := byte_str w 86
  have hl := Lib.itoa_length_le n h0 h1
  go_enter Tryd.func18, Tryd.ntmps18
  go_wp2_with fail
  refine (Tryd.strconv_Itoa n h0 h1 _ ?tab).mono ?_
  case tab => exact (hG.below (((Below.refl _ _).alloc (Nat.le_refl _) _).alloc (by simp) _)).pow
  rintro e w1 ⟨rfl, nq, os, rfl⟩
  go_wp2
  go_ret
  exact ⟨ret_str (by simp [data_app, textL, wordAt, wordsL]), (((Below.refl _ _).alloc (Nat.le_refl _) _).alloc (by simp) _).trans (Lib.below_grow _ _ (by simp; omega) nq os)⟩

/-- event.Signal.Text: what it gives. -/
def event_Signal_Text.f (a0_0 : Int) (a0_1 : ByteArray) (a0_2 : Bool) (a0_3 : Int) (a0_4 : Int) : Option ByteArray :=
  if a0_1.size ≤ 4096 ∧ 0 ≤ a0_3 ∧ a0_3 < 256 ∧ -9223372036854775808 ≤ a0_4 ∧ a0_4 ≤ 9223372036854775807 then some ⟨(textL a0_0 a0_1.data.toList a0_2 a0_3 a0_4).toArray⟩ else none
theorem event_Signal_Text.calls (a0_0 : Int) (a0_1 : ByteArray) (a0_2 : Bool) (a0_3 : Int) (a0_4 : Int) (r : ByteArray) (w : World) (hG : GTab w) (h : event_Signal_Text.f a0_0 a0_1 a0_2 a0_3 a0_4 = some r) :
    Calls Tryd.prog 18 #[.agg #[.int .i64 a0_0, .string a0_1, .bool a0_2, .int .u8 a0_3, .int .i64 a0_4]] w fun e w' => e = .returned (.string r) ∧ Below w.heap.size w w' := by
  unfold event_Signal_Text.f at h
  split at h
  · rename_i hh
    obtain ⟨hd, hc0, hc1, hn0, hn1⟩ := hh
    obtain rfl := Option.some.inj h
    by_cases hx : a0_0 < 1 ∨ 12 < a0_0
    · exact Text_none _ _ _ _ _ w hG hx
    · have : (a0_0 = 1 ∨ a0_0 = 5 ∨ a0_0 = 8 ∨ a0_0 = 9 ∨ a0_0 = 10 ∨ a0_0 = 11) ∨ (a0_0 = 2 ∨ a0_0 = 4 ∨ a0_0 = 6 ∨ a0_0 = 7) ∨ a0_0 = 3 ∨ a0_0 = 12 := by omega
      rcases this with hk | hk | hk | hk
      · exact Text_mid _ _ _ _ _ w hG hd hk
      · exact Text_bare _ _ _ _ _ w hG hk
      · exact Text_release _ _ _ _ _ w hG hd hk
      · subst hk
        by_cases h86 : a0_3 = 86
        · subst h86
          exact Text_V _ _ _ w hG hn0 hn1
        · exact Text_code _ _ _ _ w hG ⟨hc0, hc1⟩ (by simpa using h86)
  · simp at h
end Go.Proofs.YthffifgjodikiaaDoor
