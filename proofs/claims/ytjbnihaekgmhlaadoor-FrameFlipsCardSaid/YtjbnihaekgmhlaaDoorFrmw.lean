/- frame.Frame's Bytes, frame.Parse at this translation: their walks. -/
import Derived.Test.YtjbnihaekgmhlaaDoorCrcs
import Derived.Test.YtjbnihaekgmhlaaDoorCell
import Derived.Test.YtjbnihaekgmhlaaDoorShelf
import Derived.StillTailTactics
import Derived.Deep.DeepCutAuto
namespace Go.Proofs.YtjbnihaekgmhlaaDoor
open Go.RowKit Pr Go.Proofs.YtjbnihaekgmhlaaDoorW.PrintWords
set_option linter.unusedVariables false
set_option linter.unusedSimpArgs false

def padF (n : Nat) : Nat := ((cellsI n) * 48 - 8 - n).toNat
def byteI (x : Int) : UInt8 := UInt8.ofNat x.toNat
/-- A frame's bytes, but for the sum. -/
def frameBody (u : Int) (d : List UInt8) : List UInt8 := d ++ (List.replicate (padF d.length) 0 ++ [byteI u, 0, byteI ((d.length : Int) / 256), byteI ((d.length : Int) % 256)])
def frameL (u : Int) (d : List UInt8) : List UInt8 := sealL (frameBody u d)
theorem cells_bd (n : Int) (h0 : 0 ≤ n) (h1 : n ≤ 1000000) : n + 8 ≤ cellsI n * 48 ∧ cellsI n * 48 < n + 8 + 48 ∧ 1 ≤ cellsI n ∧ cellsI n ≤ 30000 := by
  unfold cellsI
  rw [show max n 0 = n by omega]
  omega
theorem cells_any (n : Int) (w : World) (h1 : n ≤ 1000000) : Calls Tryd.prog 30 #[.int .i64 n] w fun e w' => e = .returned (.int .i64 (cellsI n)) ∧ Below w.heap.size w w' :=
  frame_Cells.calls n _ w (by unfold frame_Cells.f; rw [if_pos (by omega)])
theorem repF_any (c : Nat) (w : World) (hc : c ≤ 1000000) : Calls Tryd.prog 47 #[.string ⟨#[0]⟩, .int .i64 c] w fun e w' => e = .returned (.string ⟨(List.replicate c (0 : UInt8)).toArray⟩) ∧ Below w.heap.size w w' := by
  refine (Tryd.strings_Repeat ⟨#[0]⟩ c w (by omega) (by show 1 * c ≤ _; omega)).mono ?_
  rintro e w' ⟨rfl, hb⟩
  refine ⟨?_, hb⟩
  have : ∀ c, Lib.repeatL ([0] : List UInt8) c = List.replicate c 0 := by
    intro c
    induction c with
    | zero => rfl
    | succ c ih => simp [Lib.repeatL, ih, List.replicate_succ] 
  rw [show (⟨#[0]⟩ : ByteArray).data.toList = [0] from rfl, this]
theorem bel_via {a W c : World} (hb : Below W.heap.size W c) (h : Below a.heap.size a W) : Below a.heap.size a c := h.trans (hb.mono h.size)
set_option maxHeartbeats 8000000 in
set_option maxRecDepth 100000 in
theorem FBytes_ok (u : Int) (d : ByteArray) (g : Nat) (w : World) (hu0 : 0 ≤ u) (hu1 : u < 256) (hd : d.size ≤ 65535) (hT : IsTab w g) :
    Calls Tryd.prog 21 #[.agg #[.int .u8 u, .string d], .pointer (some ⟨g, 0, none⟩)] w fun e w' => e = .returned (.tuple #[.string ⟨(frameL u d.data.toList).toArray⟩, .int .i64 0]) ∧ Below w.heap.size w w' := by
  have HT := Lib.hid hT
  have hcb := cells_bd (d.size : Int) (by omega) (by omega)
  obtain ⟨c, hc⟩ : ∃ c, cellsI (d.size : Int) = c := ⟨_, rfl⟩
  rw [hc] at hcb
  obtain ⟨hc1, hc2, hc3, hc4⟩ := hcb
  have HC := Lib.hid hc
  clear hT hc
  go_enter Tryd.func21, Tryd.ntmps21
  go_wp2_with fail
  refine (cells_any (d.size : Int) _ (by omega)).mono ?_
  rintro e w1 ⟨rfl, b1⟩
  rw [HC.out]
  have D1 := Lib.hid (bel_via b1 (below_alloc (Below.refl _ _) _))
  have U1 := Lib.hid (blk_below (blk_new w _) b1)
  clear b1
  have hpad : c * 48 - 8 - (d.size : Int) = ((padF d.size : Nat) : Int) := by unfold padF; rw [HC.out]; omega
  have hpl : padF d.size ≤ 100 := by omega
  have HP := Lib.hid hpad
  clear hpad
  go_wp2_with fail
  rw [HP.out]
  refine (repF_any (padF d.size) _ (by omega)).mono ?_
  rintro e w2 ⟨rfl, b2⟩
  have D2 := Lib.hid (bel_via b2 D1.out)
  have U2 := Lib.hid (blk_below U1.out b2)
  clear b2 D1 U1
  have c0 : w2.cell? ⟨w.heap.size, 0, none⟩ = some (.int .u8 u) := (blk_cell U2.out 0).trans rfl
  have c1 : w2.cell? ⟨w.heap.size, 1, none⟩ = some (.string d) := (blk_cell U2.out 1).trans rfl
  have hd0 : (0 : Int) ≤ (d.size : Int) / 256 := by omega
  have hd1 : (d.size : Int) / 256 < 256 := by omega
  go_upto_region 5 with fail
  clear c1
  go_upto_region 6 with (first | ((with_reducible refine gate_dst (N := 28) rfl ?_); refine Kd.R_lit (Kd.int .u8) _ 5 ?hg (N := 28) ?hd (xs := ([u, 0, (d.size : Int) / 256, (d.size : Int) % 256] : List Int)) (inner := [.int .u8 u, .int .u8 0, .int .u8 ((d.size : Int) / 256), .int .u8 ((d.size : Int) % 256)]) (ok := fun _ => True) (okp := fun _ => True) ?hr ?hp (fun _ hk => hk) trivial (Below.refl _ _) (Nat.le_refl _) (by simp) ?_; (case hd => rfl); (case hg => rfl); (case hr => first | (go_simp; done) | (go_simp; rfl)); (case hp => exact (Reps.one (show Kd.M (Kd.int .u8) _ _ _ u [.int .u8 u] from rfl) (Reps.one (show Kd.M (Kd.int .u8) _ _ _ 0 [.int .u8 0] from rfl) (Reps.one (show Kd.M (Kd.int .u8) _ _ _ ((d.size : Int) / 256) [.int .u8 ((d.size : Int) / 256)] from rfl) (Reps.one (show Kd.M (Kd.int .u8) _ _ _ ((d.size : Int) % 256) [.int .u8 ((d.size : Int) % 256)] from rfl) (Reps.none _ _))))))  ; intro v171 w3 ho3 hb3 hg_ hnew_; clear hg_ hnew_; have hcv4 := own_string (P := Tryd.prog) Tryd.underlying64 Tryd.underlying5 Tryd.underlying9 (Kd.own_of_R ho3)))
  clear hcv4 ho3 c0
  have D3 := Lib.hid (bel_via hb3 D2.out)
  have U3 := Lib.hid (blk_below U2.out hb3)
  clear hb3 D2 U2
  have c1 : w3.cell? ⟨w.heap.size, 1, none⟩ = some (.string d) := (blk_cell U3.out 1).trans rfl
  obtain ⟨hd4, hhd⟩ : ∃ q : ByteArray, strOfNums [u, 0, (d.size : Int) / 256, (d.size : Int) % 256] = q := ⟨_, rfl⟩
  have hh4 : hd4.size = 4 := by rw [← hhd]; rfl
  rw [hhd]
  have HHD := Lib.hid hhd
  clear hhd
  have hz : (⟨(List.replicate (padF d.size) (0 : UInt8)).toArray⟩ : ByteArray).size = padF d.size := by
    show (List.replicate (padF d.size) (0 : UInt8)).toArray.size = _
    rw [List.size_toArray, List.length_replicate]
  obtain ⟨zz, hzz⟩ : ∃ q : ByteArray, (⟨(List.replicate (padF d.size) (0 : UInt8)).toArray⟩ : ByteArray) = q := ⟨_, rfl⟩
  have hzz2 : (⟨Array.replicate (padF d.size) (0 : UInt8)⟩ : ByteArray) = zz := by rw [← hzz, List.toArray_replicate]
  rw [hzz] at hz
  rw [hzz2]
  have HZ := Lib.hid hzz
  clear hzz hzz2
  have hz1 : d.size + zz.size ≤ 100000 := by omega
  have hz2 : (d ++ zz).size ≤ 100000 := by rw [ByteArray.size_append]; omega
  go_wp2_with fail
  refine (Seal_any _ g _ (by rw [ByteArray.size_append]; omega) (HT.out.below D3.out)).mono ?_
  rintro e w4 ⟨rfl, b4⟩
  have D4 := Lib.hid (bel_via b4 D3.out)
  clear b4 c1
  go_wp2
  go_ret2
  refine ⟨?_, D4.out⟩
  have e : d.data.toList ++ (zz.data.toList ++ hd4.data.toList) = frameBody u d.data.toList := by
    rw [← HZ.out, ← HHD.out]
    unfold frameBody
    have hl : d.data.toList.length = d.size := by rw [Array.length_toList]; rfl
    rw [hl]
    rfl
  unfold frameL
  rw [← e]
  rfl

set_option maxHeartbeats 8000000 in
set_option maxRecDepth 100000 in
theorem FBytes_big (u : Int) (d : ByteArray) (g : Nat) (w : World) (hd : 65535 < d.size) (hd2 : d.size ≤ 1000000) :
    Calls Tryd.prog 21 #[.agg #[.int .u8 u, .string d], .pointer (some ⟨g, 0, none⟩)] w fun e w' => e = .returned (.tuple #[.string ⟨#[]⟩, .int .i64 6]) ∧ Below w.heap.size w w' := by
  have h1 : ¬ ((d.size : Int) ≤ 65535) := by omega
  go_enter Tryd.func21, Tryd.ntmps21
  go_wp2
  go_ret2
  exact ⟨rfl, below_alloc (Below.refl _ _) _⟩
end Go.Proofs.YtjbnihaekgmhlaaDoor
