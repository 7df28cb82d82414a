/- Bits turned within 32: a frame fits no more. Plain: no walk. -/
import Derived.Test.YtjbnihaekgmhlaaDoorFlip
import Derived.Test.YtjbnihaekgmhlaaDoorFrma
namespace Go.Proofs.YtjbnihaekgmhlaaDoor
open Go.RowKit Pr Go.Proofs.YtjbnihaekgmhlaaDoorW.PrintWords
set_option linter.unusedVariables false
set_option linter.unusedSimpArgs false

theorem fits_br (t : List UInt8) (h : fitsB t = true) : PolCrc.br 0xffffffff#32 (PolCrc.bitsL t) = PolCrc.sn 32 0xffffffff#32 := by
  unfold fitsB at h
  rw [Bool.and_eq_true] at h
  have h2 := eq_of_beq h.2
  have e : t = t.take (t.length - 4) ++ PolCrc.fourB (PolCrc.sum (t.take (t.length - 4))) := by rw [h2, List.take_append_drop]
  rw [e]
  exact (PolCrc.fits_iff _ _).2 rfl
/-- Bits turned: it fits no more, or none was turned. -/
theorem turn_fits (l : List UInt8) (at_ : Int) (m : Nat) (h : fitsB l = true) (hne : turnN l at_ m 32 ≠ l) : fitsB (turnN l at_ m 32) = false := by
  cases hq : fitsB (turnN l at_ m 32) with
  | false => rfl
  | true =>
    obtain ⟨a, c, v, h1, h2, h3⟩ := turn_pattern l at_ m
    exact absurd (PolCrc.bitsL_inj (PolCrc.turned l _ a c v h1 h3 h2 (fits_br l h) (fits_br _ hq))) hne
theorem parse_turned (u : Int) (d : ByteArray) (at_ : Int) (m : Nat) (hd : d.size ≤ 65535) (hne : turnN (frameL u d.data.toList) at_ m 32 ≠ frameL u d.data.toList) : parseF ⟨(turnN (frameL u d.data.toList) at_ m 32).toArray⟩ = (0, ⟨#[]⟩, 4) := by
  have hl : d.data.toList.length = d.size := by rw [Array.length_toList]; rfl
  have hf := frame_len u d.data.toList (by omega)
  rw [hl] at hf
  have hc := cells_bd (d.size : Int) (by omega) (by omega)
  have hn := turn_fits _ at_ m (by unfold frameL; exact seal_fits _) hne
  have hs : (⟨(turnN (frameL u d.data.toList) at_ m 32).toArray⟩ : ByteArray).size = (frameL u d.data.toList).length := by rw [size_mk, turnN_len]
  unfold parseF
  rw [hs, if_neg (by omega), if_pos hn]
end Go.Proofs.YtjbnihaekgmhlaaDoor
