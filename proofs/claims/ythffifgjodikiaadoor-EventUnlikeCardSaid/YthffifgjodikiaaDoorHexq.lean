/- Bytes are written as the document says, and read back; no other word is any. Plain, then the walk's end. -/
import Derived.Test.YthffifgjodikiaaDoorTxtq
import Derived.Test.YthffifgjodikiaaDoorWrit
import Derived.Test.YthffifgjodikiaaDoorF8
namespace Go.Proofs.YthffifgjodikiaaDoor
open Go.RowKit Pr Go.Proofs.YthffifgjodikiaaDoorW.PrintWords
set_option linter.unusedSimpArgs false
set_option linter.unusedVariables false

theorem ix_dig (n : Nat) (h : n < 16) : ix (dig n) = some n := by
  have : ∀ m : Fin 16, ix (dig m.val) = some m.val := by decide
  exact this ⟨n, h⟩
theorem dig_ix (a : UInt8) (x : Nat) (h : ix a = some x) : dig x = a := by
  have : ∀ m : Fin 256, ∀ y : Fin 16, ix (UInt8.ofNat m.val) = some y.val → dig y.val = UInt8.ofNat m.val := by decide +kernel
  have e : UInt8.ofNat a.toNat = a := by simp
  have := this ⟨a.toNat, a.toNat_lt⟩ ⟨x, ix_lt h⟩ (by simpa [e] using h)
  simpa [e] using this
theorem unhex_hex (l : List UInt8) : unhexP (hexP l) = some l := by
  induction l with
  | nil => rfl
  | cons b l ih =>
    have hb := b.toNat_lt
    rw [hexP_cons, unhexP, ix_dig _ (by omega), ix_dig _ (by omega)]
    simp only [ih, Option.map_some]
    have : UInt8.ofNat (16 * (b.toNat / 16) + b.toNat % 16) = b := by
      rw [show 16 * (b.toNat / 16) + b.toNat % 16 = b.toNat by omega]; simp
    rw [this]
theorem unhexL_hexL (l : List UInt8) : unhexL (hexL l) = some l := by
  unfold hexL
  split
  · rename_i h; subst h; rfl
  · rename_i h
    have hl := hexP_length l
    have h0 : 0 < l.length := List.length_pos_iff.2 h
    unfold unhexL
    rw [if_neg (fun hq => by rw [hq] at hl; simp at hl; omega), if_neg (by
      rintro (hq | hq)
      · rw [hq] at hl; simp at hl; exact h (List.eq_nil_of_length_eq_zero (by omega))
      · rw [hl] at hq; omega)]
    exact unhex_hex l
theorem hex_unhex (n : Nat) : ∀ (w t : List UInt8), w.length ≤ n → unhexP w = some t → hexP t = w := by
  induction n with
  | zero =>
    intro w t hw h
    obtain rfl : w = [] := List.eq_nil_of_length_eq_zero (by omega)
    simp [unhexP] at h
    subst h
    rfl
  | succ n ih =>
    intro w t hw h
    match w, hw, h with
    | [], _, h =>
      simp [unhexP] at h
      subst h
      rfl
    | [_], _, h => simp [unhexP] at h
    | a :: b :: r, hw, h =>
      rw [unhexP] at h
      cases hx : ix a with
      | none => rw [hx] at h; simp at h
      | some x =>
        cases hy : ix b with
        | none => rw [hx, hy] at h; simp at h
        | some y =>
          rw [hx, hy] at h
          simp only at h
          obtain ⟨u, hu, rfl⟩ := Option.map_eq_some_iff.1 h
          have hx16 := ix_lt hx
          have hy16 := ix_lt hy
          rw [hexP_cons, ih r u (by simp at hw; omega) hu]
          have e : (UInt8.ofNat (16 * x + y)).toNat = 16 * x + y := by rw [UInt8.toNat_ofNat']; omega
          rw [e, show (16 * x + y) / 16 = x by omega, show (16 * x + y) % 16 = y by omega, dig_ix a x hx, dig_ix b y hy]
theorem unhex_none (n : Nat) : ∀ (w : List UInt8), w.length ≤ n → unhexP w = none → w.length % 2 = 0 → w.all isDig = false := by
  induction n with
  | zero =>
    intro w hw h
    obtain rfl : w = [] := List.eq_nil_of_length_eq_zero (by omega)
    simp [unhexP] at h
  | succ n ih =>
    intro w hw h h2
    match w, hw, h, h2 with
    | [], _, h, _ => simp [unhexP] at h
    | [_], _, _, h2 => simp at h2
    | a :: b :: r, hw, h, h2 =>
      rw [unhexP] at h
      cases hx : ix a with
      | none => simp [isDig, hx]
      | some x =>
        cases hy : ix b with
        | none => simp [isDig, hx, hy]
        | some y =>
          rw [hx, hy] at h
          simp only [Option.map_eq_none_iff] at h
          have := ih r (by simp at hw; omega) h (by simp at h2; omega)
          simp [this]
theorem unhexL_some (w t : List UInt8) (h : unhexL w = some t) : hexL t = w := by
  unfold unhexL at h
  split at h
  · rename_i hw; simp at h; subst h; rw [hw]; rfl
  · split at h
    · simp at h
    · rename_i h1 h2
      have hh := hex_unhex _ w t (Nat.le_refl _) h
      have ht : t ≠ [] := fun hq => by subst hq; rw [hexP_nil] at hh; exact h2 (.inl hh.symm)
      unfold hexL
      rw [if_neg ht, hh]
theorem unhexL_none (w : List UInt8) (h : unhexL w = none) : writB w = false := by
  unfold unhexL at h
  split at h
  · simp at h
  · rename_i h1
    have h1' : (w == [45]) = false := by simpa using h1
    split at h
    · rename_i h2
      unfold writB
      rw [h1']
      rcases h2 with rfl | h2
      · rfl
      · have : (w.length % 2 == 0) = false := by simpa using h2
        simp [this]
    · rename_i h2
      have := unhex_none _ w (Nat.le_refl _) h (by
        rcases Nat.mod_two_eq_zero_or_one w.length with h3 | h3
        · exact h3
        · exact absurd (.inr (by omega)) h2)
      unfold writB
      rw [h1', this]
      rfl

theorem awake_ev : Ev (fun k => polliwoglaw10_awake.f k) true := Ev.of (fun k => polliwoglaw10_awake.mono k) awake_true
theorem EventHex_pure (s word : ByteArray) : ∃ k, polliwoglaw10_EventHex.f k s word = some true := by
  obtain ⟨r, hr, hr1, _⟩ := cut_some s 100 (by omega)
  obtain ⟨v, hv, hv1, _⟩ := cut_some word 100 (by omega)
  obtain ⟨K, hK⟩ := awake_ev
  obtain ⟨K2, hK2⟩ := refHex_ev r (by omega)
  have a1 := hK (max K K2) (by omega)
  have a2 := hK2 (max K K2) (by omega)
  simp only at a1 a2
  have e1 : event_Hex.f r = some ⟨(hexL r.data.toList).toArray⟩ := by unfold event_Hex.f; rw [if_pos (by omega)]
  have hl := hexL_le r
  have e2 : event_Unhex.f ⟨(hexL r.data.toList).toArray⟩ = some (r, true) := by
    unfold event_Unhex.f
    rw [if_pos (by rw [size_mk]; omega)]
    simp only [unhexL_hexL]
    rfl
  have e3 : event_Unhex.f v = some (⟨((unhexL v.data.toList).getD []).toArray⟩, (unhexL v.data.toList).isSome) := by
    unfold event_Unhex.f
    rw [if_pos (by omega)]
  have e4 : polliwoglaw10_written.f v = some (writB v.data.toList) := by unfold polliwoglaw10_written.f; rw [if_pos (by omega)]
  refine ⟨max K K2, ?_⟩
  unfold polliwoglaw10_EventHex.f
  rw [a1]
  simp only [Option.bind_some, if_true, hr, hv, e1, e2, e3, a2]
  cases hw : unhexL v.data.toList with
  | none =>
    have hn := unhexL_none _ hw
    have em : (⟨([] : List UInt8).toArray⟩ : ByteArray).toList = [] := by rw [ByteArray.toList_eq]
    simp [e4, hn, em]
  | some t =>
    have ht := unhexL_some _ _ hw
    have hlt : t.length ≤ 100 := by
      have h1 : (hexL t).length = v.size := by rw [ht, Array.length_toList]; rfl
      unfold hexL at h1
      split at h1
      · rename_i hq; subst hq; simp
      · rw [hexP_length] at h1; omega
    have e5 : event_Hex.f ⟨t.toArray⟩ = some v := by
      unfold event_Hex.f
      rw [if_pos (by rw [size_mk]; omega)]
      congr 1
      apply byte_ext
      simpa using ht
    simp [e5]

theorem EventHex_walk (a0 a1 : ByteArray) (w : World) (_ : a0.size ≤ 140737488351232) (_ : a1.size ≤ 140737488351232) (hG : GTab w) :
    Calls Tryd.prog 8 #[.string a0, .string a1] w fun e w' => e = .returned (.bool true) ∧ Below w.heap.size w w' := by
  obtain ⟨k, hk⟩ := EventHex_pure a0 a1
  exact polliwoglaw10_EventHex.calls k a0 a1 true w hG hk
end Go.Proofs.YthffifgjodikiaaDoor
