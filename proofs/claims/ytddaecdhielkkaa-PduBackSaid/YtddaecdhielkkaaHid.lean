/- slices.ContainsFunc at pdu.PDU.Check's own function value: is there a number that is none of 24 bits? -/
import Derived.Test.YtddaecdhielkkaaFs
import Derived.WalkKit
import Derived.Lib.Hide
namespace Go.Proofs.Ytddaecdhielkkaa
open Go.RowKit Pr Go.Proofs.YtddaecdhielkkaaW.PrintWords
set_option linter.unusedVariables false
set_option linter.unusedSimpArgs false

/-- Is it one of 24 bits? -/
def lowB (x : Int) : Bool := x == Go.bits .and .u32 x 16777215
theorem low_f (x : Int) : pdu_low.f x = some (lowB x) := by simp [pdu_low.f, seq_Num_Low.f, lowB]
theorem low_any (x : Int) (w : World) : Calls Try.prog 39 #[.int .u32 x] w fun e w' => e = .returned (.bool (lowB x)) ∧ ∃ n, w' = w.drewN n :=
  (pdu_low.calls x (lowB x) w (low_f x)).mono fun _ _ ⟨he, hd⟩ => ⟨he, hd.out⟩

set_option maxHeartbeats 1000000 in
theorem notLow_any (x : Int) (w : World) : Calls Try.prog 41 #[.int .u32 x] w fun e w' => e = .returned (.bool (!(lowB x))) ∧ ∃ n, w' = w.drewN n := by
  go_enter Try.func41, Try.ntmps41
  go_wp2_with (go_at_call 39; refine (low_any _ _).mono ?_; rintro e w' ⟨rfl, n, rfl⟩)
  go_ret
  exact ⟨rfl, n, rfl⟩

theorem cells_of (A0 : Option Addr) (l0 : List Int) (w : World) (hr0 : Kd.C (Kd.int .u32) w A0 l0.length l0) :
    l0.length ≤ 9223372036854775807 ∧ (0 < l0.length → ∃ ad, A0 = some ad ∧ ∀ j, j < l0.length → w.cell? (ad.add j) = some (.int .u32 (l0.getD j 0))) := by
  have h := Kd.reads_of_C (d := (0 : Int)) (h1 := fun _ => rfl) hr0
  exact ⟨h.2.1, h.2.2⟩

set_option maxHeartbeats 4000000 in
theorem idx_any (A0 : Option Addr) (c0 : Nat) (l0 : List Int) (w : World) (hr0 : Kd.C (Kd.int .u32) w A0 l0.length l0) (hc0 : l0.length ≤ c0) :
    Calls Try.prog 62 #[.slice A0 l0.length c0, .func (.func 41) #[] #[]] w fun e w' => (∃ i : Int, e = .returned (.int .i64 i) ∧ decide (0 ≤ i) = !(l0.all lowB)) ∧ ∃ n, w' = w.drewN n := by
  obtain ⟨hb, hcells⟩ := cells_of A0 l0 w hr0
  have HC := Lib.hid hcells
  clear hcells hr0
  generalize hn : l0.length = N at hb hc0 HC
  have HN := Lib.hid hn
  clear hn
  go_enter Try.func62, Try.ntmps62
  go_wp2
  go_loopw [8] (fun i wr => ∃ (k m : Nat), k ≤ N ∧ i = .int .i64 k ∧ Hid ((l0.take k).all lowB = true) ∧ wr = w.drewN m) (fun i _ => N - (intOf i).toNat)
  case atStart => exact ⟨0, 0, Nat.zero_le _, rfl, Lib.hid (by simp), rfl⟩
  case round =>
    obtain ⟨k, m, hk, rfl, HA, rfl⟩ := hrel
    by_cases hlt : k < N
    · obtain ⟨ad, rfl, hc⟩ := HC.out (by omega)
      have hcell := hc k hlt
      clear hc
      have hl : k < l0.length := by have := HN.out; omega
      have hg : l0.getD k 0 = l0[k] := by rw [List.getD_eq_getElem?_getD, List.getElem?_eq_getElem hl]; rfl
      rw [hg] at hcell
      obtain ⟨x, hx⟩ : ∃ x, l0[k] = x := ⟨_, rfl⟩
      rw [hx] at hcell
      have HX := Lib.hid hx
      clear hx hg
      cases hb2 : lowB x with
      | true =>
        have HB : Hid (lowB x = true) := Lib.hid hb2
        have hT : Hid ((l0.take (k + 1)).all lowB = true) := Lib.hid (by rw [List.take_succ_eq_append_getElem hl, List.all_append, HA.out, HX.out]; simp [HB.out])
        clear hb2
        go_wp2_with (go_at_call 41; refine (notLow_any _ _).mono ?_; rintro e w' ⟨rfl, n, rfl⟩; rw [HB.out])
        go_roundw
        case rel => exact ⟨k + 1, _, by omega, by go_num, hT, rfl⟩
        case measure => simp [intOf]; omega
      | false =>
        have HB : Hid (lowB x = false) := Lib.hid hb2
        have hT : Hid (l0.all lowB = false) := Lib.hid (by rw [List.all_eq_false]; exact ⟨l0[k], List.getElem_mem hl, by rw [HX.out, HB.out]; decide⟩)
        clear hb2
        go_wp2_with (go_at_call 41; refine (notLow_any _ _).mono ?_; rintro e w' ⟨rfl, n, rfl⟩; rw [HB.out])
        go_ret
        exact ⟨⟨_, rfl, by rw [hT.out]; simp⟩, _, rfl⟩
    · have hT : Hid (l0.all lowB = true) := Lib.hid (by have := HA.out; rw [List.take_of_length_le (by have := HN.out; omega)] at this; exact this)
      go_wp2
      go_ret
      exact ⟨⟨_, rfl, by rw [hT.out]; simp⟩, m, rfl⟩

/-- slices.ContainsFunc at that function value: what it gives. -/
def containsHigh.f (l0 : List Int) : Option Bool := some (!(l0.all lowB))
set_option maxHeartbeats 1000000 in
theorem containsHigh.calls (A0 : Option Addr) (c0 : Nat) (l0 : List Int) (r : Bool) (w : World) (hr0 : Kd.C (Kd.int .u32) w A0 l0.length l0) (hc0 : l0.length ≤ c0) (h : containsHigh.f l0 = some r) :
    Calls Try.prog 40 #[.slice A0 l0.length c0, .func (.func 41) #[] #[]] w fun e w' => e = .returned (.bool r) ∧ Drawn0 w w' := by
  obtain rfl := Option.some.inj h
  clear h
  have hI := Lib.hid (idx_any A0 c0 l0 w hr0 hc0)
  clear hr0
  go_enter Try.func40, Try.ntmps40
  go_wp2_with fail
  refine hI.out.mono ?_
  rintro e w' ⟨⟨i, rfl, hi⟩, n, rfl⟩
  have HI := Lib.hid hi
  clear hi
  go_wp2
  go_ret
  exact ⟨by rw [← HI.out]; rfl, ⟨⟨n, rfl⟩⟩⟩
end Go.Proofs.Ytddaecdhielkkaa
