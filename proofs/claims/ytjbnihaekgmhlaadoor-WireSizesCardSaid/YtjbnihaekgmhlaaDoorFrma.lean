/- polliwoglaw05.awake at this translation: its walk. -/
import Derived.Test.YtjbnihaekgmhlaaDoorCrcs
import Derived.Test.YtjbnihaekgmhlaaDoorShelf
import Derived.StillTailTactics
import Derived.Deep.DeepCutAuto
namespace Go.Proofs.YtjbnihaekgmhlaaDoor
open Go.RowKit Pr Go.Proofs.YtjbnihaekgmhlaaDoorW.PrintWords
set_option linter.unusedVariables false
set_option linter.unusedSimpArgs false

def padF (n : Nat) : Nat := ((cellsI n) * 48 - 8 - n).toNat
def byteI (x : Int) : UInt8 := UInt8.ofNat x.toNat
/-- A frame's bytes, but for the sum. -/
def frameBody (u : Int) (d : List UInt8) : List UInt8 := d ++ (List.replicate (padF d.length) 0 ++ [byteI u, 0, byteI ((d.length : Int) / 256), byteI ((d.length : Int) % 256)])
def frameL (u : Int) (d : List UInt8) : List UInt8 := sealL (frameBody u d)
theorem cells_bd (n : Int) (h0 : 0 ≤ n) (h1 : n ≤ 1000000) : n + 8 ≤ cellsI n * 48 ∧ cellsI n * 48 < n + 8 + 48 ∧ 1 ≤ cellsI n ∧ cellsI n ≤ 30000 := by
  unfold cellsI
  rw [show max n 0 = n by omega]
  omega
theorem cells_any (n : Int) (w : World) (h1 : n ≤ 1000000) : Calls Tryd.prog 30 #[.int .i64 n] w fun e w' => e = .returned (.int .i64 (cellsI n)) ∧ Below w.heap.size w w' :=
  frame_Cells.calls n _ w (by unfold frame_Cells.f; rw [if_pos (by omega)])
theorem repF_any (c : Nat) (w : World) (hc : c ≤ 1000000) : Calls Tryd.prog 47 #[.string ⟨#[0]⟩, .int .i64 c] w fun e w' => e = .returned (.string ⟨(List.replicate c (0 : UInt8)).toArray⟩) ∧ Below w.heap.size w w' := by
  refine (Tryd.strings_Repeat ⟨#[0]⟩ c w (by omega) (by show 1 * c ≤ _; omega)).mono ?_
  rintro e w' ⟨rfl, hb⟩
  refine ⟨?_, hb⟩
  have : ∀ c, Lib.repeatL ([0] : List UInt8) c = List.replicate c 0 := by
    intro c
    induction c with
    | zero => rfl
    | succ c ih => simp [Lib.repeatL, ih, List.replicate_succ] 
  rw [show (⟨#[0]⟩ : ByteArray).data.toList = [0] from rfl, this]
theorem bel_via {a W c : World} (hb : Below W.heap.size W c) (h : Below a.heap.size a W) : Below a.heap.size a c := h.trans (hb.mono h.size)
set_option maxHeartbeats 8000000 in
set_option maxRecDepth 100000 in
theorem FBytes_ok (u : Int) (d : ByteArray) (g : Nat) (w : World) (hu0 : 0 ≤ u) (hu1 : u < 256) (hd : d.size ≤ 65535) (hT : IsTab w g) :
    Calls Tryd.prog 21 #[.agg #[.int .u8 u, .string d], .pointer (some ⟨g, 0, none⟩)] w fun e w' => e = .returned (.tuple #[.string ⟨(frameL u d.data.toList).toArray⟩, .int .i64 0]) ∧ Below w.heap.size w w' := by
  have HT := Lib.hid hT
  have hcb := cells_bd (d.size : Int) (by omega) (by omega)
  obtain ⟨c, hc⟩ : ∃ c, cellsI (d.size : Int) = c := ⟨_, rfl⟩
  rw [hc] at hcb
  obtain ⟨hc1, hc2, hc3, hc4⟩ := hcb
  have HC := Lib.hid hc
  clear hT hc
  go_enter Tryd.func21, Tryd.ntmps21
  go_wp2_with fail
  refine (cells_any (d.size : Int) _ (by omega)).mono ?_
  rintro e w1 ⟨rfl, b1⟩
  rw [HC.out]
  have D1 := Lib.hid (bel_via b1 (below_alloc (Below.refl _ _) _))
  have U1 := Lib.hid (blk_below (blk_new w _) b1)
  clear b1
  have hpad : c * 48 - 8 - (d.size : Int) = ((padF d.size : Nat) : Int) := by unfold padF; rw [HC.out]; omega
  have hpl : padF d.size ≤ 100 := by omega
  have HP := Lib.hid hpad
  clear hpad
  go_wp2_with fail
  rw [HP.out]
  refine (repF_any (padF d.size) _ (by omega)).mono ?_
  rintro e w2 ⟨rfl, b2⟩
  have D2 := Lib.hid (bel_via b2 D1.out)
  have U2 := Lib.hid (blk_below U1.out b2)
  clear b2 D1 U1
  have c0 : w2.cell? ⟨w.heap.size, 0, none⟩ = some (.int .u8 u) := (blk_cell U2.out 0).trans rfl
  have c1 : w2.cell? ⟨w.heap.size, 1, none⟩ = some (.string d) := (blk_cell U2.out 1).trans rfl
  have hd0 : (0 : Int) ≤ (d.size : Int) / 256 := by omega
  have hd1 : (d.size : Int) / 256 < 256 := by omega
  go_upto_region 5 with fail
  clear c1
  go_upto_region 6 with (first | ((with_reducible refine gate_dst (N := 28) rfl ?_); refine Kd.R_lit (Kd.int .u8) _ 5 ?hg (N := 28) ?hd (xs := ([u, 0, (d.size : Int) / 256, (d.size : Int) % 256] : List Int)) (inner := [.int .u8 u, .int .u8 0, .int .u8 ((d.size : Int) / 256), .int .u8 ((d.size : Int) % 256)]) (ok := fun _ => True) (okp := fun _ => True) ?hr ?hp (fun _ hk => hk) trivial (Below.refl _ _) (Nat.le_refl _) (by simp) ?_; (case hd => rfl); (case hg => rfl); (case hr => first | (go_simp; done) | (go_simp; rfl)); (case hp => exact (Reps.one (show Kd.M (Kd.int .u8) _ _ _ u [.int .u8 u] from rfl) (Reps.one (show Kd.M (Kd.int .u8) _ _ _ 0 [.int .u8 0] from rfl) (Reps.one (show Kd.M (Kd.int .u8) _ _ _ ((d.size : Int) / 256) [.int .u8 ((d.size : Int) / 256)] from rfl) (Reps.one (show Kd.M (Kd.int .u8) _ _ _ ((d.size : Int) % 256) [.int .u8 ((d.size : Int) % 256)] from rfl) (Reps.none _ _))))))  ; intro v171 w3 ho3 hb3 hg_ hnew_; clear hg_ hnew_; have hcv4 := own_string (P := Tryd.prog) Tryd.underlying64 Tryd.underlying5 Tryd.underlying9 (Kd.own_of_R ho3)))
  clear hcv4 ho3 c0
  have D3 := Lib.hid (bel_via hb3 D2.out)
  have U3 := Lib.hid (blk_below U2.out hb3)
  clear hb3 D2 U2
  have c1 : w3.cell? ⟨w.heap.size, 1, none⟩ = some (.string d) := (blk_cell U3.out 1).trans rfl
  obtain ⟨hd4, hhd⟩ : ∃ q : ByteArray, strOfNums [u, 0, (d.size : Int) / 256, (d.size : Int) % 256] = q := ⟨_, rfl⟩
  have hh4 : hd4.size = 4 := by rw [← hhd]; rfl
  rw [hhd]
  have HHD := Lib.hid hhd
  clear hhd
  have hz : (⟨(List.replicate (padF d.size) (0 : UInt8)).toArray⟩ : ByteArray).size = padF d.size := by
    show (List.replicate (padF d.size) (0 : UInt8)).toArray.size = _
    rw [List.size_toArray, List.length_replicate]
  obtain ⟨zz, hzz⟩ : ∃ q : ByteArray, (⟨(List.replicate (padF d.size) (0 : UInt8)).toArray⟩ : ByteArray) = q := ⟨_, rfl⟩
  have hzz2 : (⟨Array.replicate (padF d.size) (0 : UInt8)⟩ : ByteArray) = zz := by rw [← hzz, List.toArray_replicate]
  rw [hzz] at hz
  rw [hzz2]
  have HZ := Lib.hid hzz
  clear hzz hzz2
  have hz1 : d.size + zz.size ≤ 100000 := by omega
  have hz2 : (d ++ zz).size ≤ 100000 := by rw [ByteArray.size_append]; omega
  go_wp2_with fail
  refine (Seal_any _ g _ (by rw [ByteArray.size_append]; omega) (HT.out.below D3.out)).mono ?_
  rintro e w4 ⟨rfl, b4⟩
  have D4 := Lib.hid (bel_via b4 D3.out)
  clear b4 c1
  go_wp2
  go_ret2
  refine ⟨?_, D4.out⟩
  have e : d.data.toList ++ (zz.data.toList ++ hd4.data.toList) = frameBody u d.data.toList := by
    rw [← HZ.out, ← HHD.out]
    unfold frameBody
    have hl : d.data.toList.length = d.size := by rw [Array.length_toList]; rfl
    rw [hl]
    rfl
  unfold frameL
  rw [← e]
  rfl

set_option maxHeartbeats 8000000 in
set_option maxRecDepth 100000 in
theorem FBytes_big (u : Int) (d : ByteArray) (g : Nat) (w : World) (hd : 65535 < d.size) (hd2 : d.size ≤ 1000000) :
    Calls Tryd.prog 21 #[.agg #[.int .u8 u, .string d], .pointer (some ⟨g, 0, none⟩)] w fun e w' => e = .returned (.tuple #[.string ⟨#[]⟩, .int .i64 6]) ∧ Below w.heap.size w w' := by
  have h1 : ¬ ((d.size : Int) ≤ 65535) := by omega
  go_enter Tryd.func21, Tryd.ntmps21
  go_wp2
  go_ret2
  exact ⟨rfl, below_alloc (Below.refl _ _) _⟩
end Go.Proofs.YtjbnihaekgmhlaaDoor
namespace Go.Proofs.YtjbnihaekgmhlaaDoor
open Go.RowKit Pr Go.Proofs.YtjbnihaekgmhlaaDoorW.PrintWords
set_option linter.unusedVariables false
set_option linter.unusedSimpArgs false

/-- A number of bytes, read in the last eight. -/
def lenAt (s : ByteArray) (m : Nat) : Nat := (s.data.toList.getD (m + 2) 0).toNat * 256 + (s.data.toList.getD (m + 3) 0).toNat
theorem byte_at (s : ByteArray) (k : Nat) (h : k < s.size) : s.data.toList.getD k 0 = s[k] := by
  rw [List.getD_eq_getElem?_getD, List.getElem?_eq_getElem (by rw [Array.length_toList]; exact h)]
  rfl
theorem or_len (a b : UInt8) : Go.bits .or .i64 ((a.toNat : Int) * 256) (b.toNat : Int) = (((a.toNat * 256 + b.toNat : Nat)) : Int) := by
  have ha := a.toNat_lt
  have hb := b.toNat_lt
  have := bits_join .i64 63 (by decide) (fun n h0 h1 => by rw [IntKind.wrap_i64]; omega) 8 ((a.toNat : Int) * 256) (b.toNat : Int) (by omega) (by omega) (by omega) (by omega) (by omega) (by omega)
  rw [this]
  omega
def trimZ (l : List UInt8) : List UInt8 := Lib.trimB l 0
theorem trim_any (s : ByteArray) (w : World) (hs : s.size ≤ 1000000) : Calls Tryd.prog 54 #[.string s, .string ⟨#[0]⟩] w fun e w' => e = .returned (.string ⟨(trimZ s.data.toList).toArray⟩) ∧ ∃ n, w' = w.drewN n := by
  refine (Tryd.strings_Trim_one s 0 (by decide) w (by omega)).mono ?_
  rintro e w' ⟨rfl, h | h⟩
  · exact ⟨rfl, 0, h⟩
  · exact ⟨rfl, 1, h⟩
theorem res44 {W : World} {g : Nat} {v0 v1 : Value} {t : TypeId} (h : W.heap[g]? = some (.cells #[v0, v1] t (0, 0))) (u0 u1 : Value) : ((W.setCell ⟨g, 0, none⟩ u0).setCell ⟨g, 1, none⟩ u1).heap[g]? = some (.cells #[u0, u1] t (0, 0)) := by
  have := blk_set (blk_set h 0 u0) 1 u1
  simpa using this
theorem bel44 {a w : World} {B g : Nat} (h : Below B a w) (hg : B ≤ g) (u0 u1 : Value) : Below B a ((w.setCell ⟨g, 0, none⟩ u0).setCell ⟨g, 1, none⟩ u1) :=
  (h.setCell (p := ⟨g, 0, none⟩) hg u0).setCell (p := ⟨g, 1, none⟩) hg u1
theorem empty_noF (s : ByteArray) (h0 : 0 < s.size) : s.toList.isEmpty = false := by
  rw [ByteArray.toList_eq]
  have : s.data.toList.length = s.size := by rw [Array.length_toList]; rfl
  cases hq : s.data.toList with
  | nil => rw [hq] at this; simp at this; omega
  | cons => rfl
/-- What frame.Parse answers: the user, the data, the error's number. -/
def parseF (s : ByteArray) : Int × ByteArray × Int :=
  if s.size = 0 ∨ s.size % 48 ≠ 0 then (0, ⟨#[]⟩, 5) else if fitsB s.data.toList = false then (0, ⟨#[]⟩, 4)
  else if cellsI (lenAt s (s.size - 8) : Int) * 48 ≠ (s.size : Int) then (0, ⟨#[]⟩, 5)
  else if s.data.toList.getD (s.size - 8 + 1) 0 ≠ 0 ∨ trimZ (s.extract (lenAt s (s.size - 8)) (s.size - 8)).data.toList ≠ [] then (0, ⟨#[]⟩, 3)
  else (((s.data.toList.getD (s.size - 8) 0).toNat : Int), s.extract 0 (lenAt s (s.size - 8)), 0)
set_option maxHeartbeats 16000000 in
set_option maxRecDepth 100000 in
theorem FParse_any (s : ByteArray) (g : Nat) (w : World) (hs : s.size ≤ 1000000) (hT : IsTab w g) :
    Calls Tryd.prog 22 #[.pointer (some ⟨g, 0, none⟩), .string s] w fun e w' => e = .returned (.tuple #[.agg #[.int .u8 (parseF s).1, .string (parseF s).2.1], .int .i64 (parseF s).2.2]) ∧ Below w.heap.size w w' := by
  have HT := Lib.hid hT
  obtain ⟨R, hR⟩ : ∃ R, parseF s = R := ⟨_, rfl⟩
  rw [hR]
  have HR := Lib.hid hR
  clear hT hR
  by_cases h1 : s.size = 0 ∨ s.size % 48 ≠ 0
  · have e1 : R = (0, ⟨#[]⟩, 5) := by rw [← HR.out]; unfold parseF; rw [if_pos h1]
    subst e1
    clear HR
    by_cases h0 : s.size = 0
    · have hne : s.toList.isEmpty = true := by
        have : s.data.toList = [] := List.eq_nil_of_length_eq_zero (by rw [Array.length_toList]; exact h0)
        rw [ByteArray.toList_eq, this]; rfl
      clear h1 h0
      go_enter Tryd.func22, Tryd.ntmps22
      go_wp2_with (first | ((with_reducible refine gate_dst (N := 4) rfl ?_); refine box_event ?hg (N := 4) ?hd (cs := #[.int .u8 0, .string (⟨#[]⟩ : ByteArray)]) (t := 44) ?hr ?_; (case hd => rfl); (case hg => rfl); (case hr => first | (go_simp; done) | (go_simp; rfl)); intro gq hg_ w1 hbox hb3; have cgq0 := (blk_cell hbox 0).trans rfl; have zgq0 := blk_frozen hbox 0; have cgq1 := (blk_cell hbox 1).trans rfl; have zgq1 := blk_frozen hbox 1; have HGgq := Lib.hid hg_; have HBgq := Lib.hid hb3; have HXgq := Lib.hid hbox; clear hg_ hb3 hbox))
      refine bodyPost_ret (results_ct rfl _ _ gq 44 #[.int .u8 0, .string (⟨#[]⟩ : ByteArray)] (0, 0) _ rfl (res44 HXgq.out _ _) Tryd.underlying44 rfl (by kernel_rfl)) rfl ?_
      exact ⟨rfl, bel44 HBgq.out (by rw [HGgq.out]; exact Nat.le_refl _) _ _⟩
    · have hne : s.toList.isEmpty = false := empty_noF s (by omega)
      have hq : ((s.size : Int) % 48 != 0) = true := by simp; omega
      clear h1 h0
      go_enter Tryd.func22, Tryd.ntmps22
      go_wp2_with (first | ((with_reducible refine gate_dst (N := 4) rfl ?_); refine box_event ?hg (N := 4) ?hd (cs := #[.int .u8 0, .string (⟨#[]⟩ : ByteArray)]) (t := 44) ?hr ?_; (case hd => rfl); (case hg => rfl); (case hr => first | (go_simp; done) | (go_simp; rfl)); intro gq hg_ w1 hbox hb3; have cgq0 := (blk_cell hbox 0).trans rfl; have zgq0 := blk_frozen hbox 0; have cgq1 := (blk_cell hbox 1).trans rfl; have zgq1 := blk_frozen hbox 1; have HGgq := Lib.hid hg_; have HBgq := Lib.hid hb3; have HXgq := Lib.hid hbox; clear hg_ hb3 hbox))
      refine bodyPost_ret (results_ct rfl _ _ gq 44 #[.int .u8 0, .string (⟨#[]⟩ : ByteArray)] (0, 0) _ rfl (res44 HXgq.out _ _) Tryd.underlying44 rfl (by kernel_rfl)) rfl ?_
      exact ⟨rfl, bel44 HBgq.out (by rw [HGgq.out]; exact Nat.le_refl _) _ _⟩
  have h48 : s.size % 48 = 0 := by omega
  have h0 : 48 ≤ s.size := by omega
  have hne : s.toList.isEmpty = false := empty_noF s (by omega)
  have hq : ((s.size : Int) % 48 != 0) = false := by simp; omega
  cases hf : fitsB s.data.toList with
  | false =>
    have e1 : R = (0, ⟨#[]⟩, 4) := by rw [← HR.out]; unfold parseF; rw [if_neg h1, if_pos hf]
    subst e1
    have HF := Lib.hid hf
    clear HR h1 hf h48 h0
    go_enter Tryd.func22, Tryd.ntmps22
    go_wp2_with (first | ((with_reducible refine gate_dst (N := 4) rfl ?_); refine box_event ?hg (N := 4) ?hd (cs := #[.int .u8 0, .string (⟨#[]⟩ : ByteArray)]) (t := 44) ?hr ?_; (case hd => rfl); (case hg => rfl); (case hr => first | (go_simp; done) | (go_simp; rfl)); intro gq hg_ w1 hbox hb3; have cgq0 := (blk_cell hbox 0).trans rfl; have zgq0 := blk_frozen hbox 0; have cgq1 := (blk_cell hbox 1).trans rfl; have zgq1 := blk_frozen hbox 1; have HGgq := Lib.hid hg_; have HBgq := Lib.hid hb3; have HXgq := Lib.hid hbox; clear hg_ hb3 hbox))
    have X1 := HXgq
    refine (Fits_any s g _ (by omega) (HT.out.below HBgq.out)).mono ?_
    rintro e w2 ⟨rfl, b2⟩
    rw [HF.out]
    have X2 := Lib.hid (blk_below HXgq.out b2)
    have B2 := Lib.hid (bel_via b2 HBgq.out)
    clear b2 cgq0 zgq0 cgq1 zgq1
    have cgq0 := (blk_cell X2.out 0).trans rfl
    have zgq0 := blk_frozen X2.out 0
    have cgq1 := (blk_cell X2.out 1).trans rfl
    have zgq1 := blk_frozen X2.out 1
    go_wp2_with fail
    refine bodyPost_ret (results_ct rfl _ _ gq 44 #[.int .u8 0, .string (⟨#[]⟩ : ByteArray)] (0, 0) _ rfl (res44 X2.out _ _) Tryd.underlying44 rfl (by kernel_rfl)) rfl ?_
    exact ⟨rfl, bel44 B2.out (by rw [HGgq.out]; exact Nat.le_refl _) _ _⟩
  | true =>
    have HF := Lib.hid hf
    clear hf
    obtain ⟨m, hm⟩ : ∃ m, s.size = m + 8 := ⟨s.size - 8, by omega⟩
    have hm8 : s.size - 8 = m := by omega
    have hk0 : m < s.size := by omega
    obtain ⟨p1, hp1⟩ : ∃ p, m + 1 = p := ⟨_, rfl⟩
    have hk1 : p1 < s.size := by omega
    obtain ⟨p2, hp2⟩ : ∃ p, m + 2 = p := ⟨_, rfl⟩
    have hk2 : p2 < s.size := by omega
    obtain ⟨p3, hp3⟩ : ∃ p, m + 3 = p := ⟨_, rfl⟩
    have hk3 : p3 < s.size := by omega
    obtain ⟨b0, hb0⟩ : ∃ b, s[m]'hk0 = b := ⟨_, rfl⟩
    obtain ⟨b1, hb1⟩ : ∃ b, s[p1]'hk1 = b := ⟨_, rfl⟩
    obtain ⟨b2, hb2⟩ : ∃ b, s[p2]'hk2 = b := ⟨_, rfl⟩
    obtain ⟨b3, hb3⟩ : ∃ b, s[p3]'hk3 = b := ⟨_, rfl⟩
    obtain ⟨n, hn⟩ : ∃ n, b2.toNat * 256 + b3.toNat = n := ⟨_, rfl⟩
    have hla : lenAt s (s.size - 8) = n := by
      unfold lenAt
      rw [hm8, hp2, hp3, byte_at s p2 hk2, byte_at s p3 hk3, hb2, hb3, hn]
    have hor : Go.bits .or .i64 ((b2.toNat : Int) * 256) (b3.toNat : Int) = (n : Int) := by rw [or_len, hn]
    have hn1 : n ≤ 65535 := by have := b2.toNat_lt; have := b3.toNat_lt; omega
    have HLA := Lib.hid hla
    have HOR := Lib.hid hor
    have HM := Lib.hid hm
    have HP1 := Lib.hid hp1
    have HP2 := Lib.hid hp2
    have HP3 := Lib.hid hp3
    have HM8 := Lib.hid hm8
    have HB0 := Lib.hid hb0
    have HB1 := Lib.hid hb1
    have HB2 := Lib.hid hb2
    have HB3 := Lib.hid hb3
    have HH1 := Lib.hid h1
    have HH48 := Lib.hid h48
    clear hp1 hp2 hp3 hla hor hm hm8 hb0 hb1 hb2 hb3 hn h1 h48
    go_enter Tryd.func22, Tryd.ntmps22
    go_wp2_with (first | ((with_reducible refine gate_dst (N := 4) rfl ?_); refine box_event ?hg (N := 4) ?hd (cs := #[.int .u8 0, .string (⟨#[]⟩ : ByteArray)]) (t := 44) ?hr ?_; (case hd => rfl); (case hg => rfl); (case hr => first | (go_simp; done) | (go_simp; rfl)); intro gq hg_ w1 hbox hb3; have cgq0 := (blk_cell hbox 0).trans rfl; have zgq0 := blk_frozen hbox 0; have cgq1 := (blk_cell hbox 1).trans rfl; have zgq1 := blk_frozen hbox 1; have HGgq := Lib.hid hg_; have HBgq := Lib.hid hb3; have HXgq := Lib.hid hbox; clear hg_ hb3 hbox))
    refine (Fits_any s g _ (by omega) (HT.out.below HBgq.out)).mono ?_
    rintro e w2 ⟨rfl, bb2⟩
    rw [HF.out]
    have X2 := Lib.hid (blk_below HXgq.out bb2)
    have B2 := Lib.hid (bel_via bb2 HBgq.out)
    clear bb2 cgq0 zgq0 cgq1 zgq1
    go_wp2_with fail
    have em : (s.size : Int) - 8 = (m : Int) := by have := HM.out; omega
    rw [em]
    clear em
    have w1 : IntKind.i64.wrap ((m : Int) + 1) = (p1 : Int) := by have := HP1.out; rw [IntKind.wrap_i64]; omega
    have w2_ : IntKind.i64.wrap ((m : Int) + 2) = (p2 : Int) := by have := HP2.out; rw [IntKind.wrap_i64]; omega
    have w3 : IntKind.i64.wrap ((m : Int) + 3) = (p3 : Int) := by have := HP3.out; rw [IntKind.wrap_i64]; omega
    have hb2 := HB2.out
    have hb3 := HB3.out
    have hor := HOR.out
    have hv2 := b2.toNat_lt
    have hv3 := b3.toNat_lt
    go_quiet (fail)
    clear w1 w2_ w3 hb2 hb3 hor hv2 hv3
    obtain ⟨c, hc⟩ : ∃ c, cellsI (n : Int) = c := ⟨_, rfl⟩
    have hcb := cells_bd (n : Int) (by omega) (by omega)
    rw [hc] at hcb
    obtain ⟨hc1, hc2, hc3, hc4⟩ := hcb
    have HC := Lib.hid hc
    clear hc
    go_wp2_with fail
    refine (cells_any (n : Int) _ (by omega)).mono ?_
    rintro e w4 ⟨rfl, bb4⟩
    rw [HC.out]
    have X4 := Lib.hid (blk_below (w := w2.drewN nq) X2.out bb4)
    have B4 := Lib.hid (bel_via bb4 (pw_below_drewN B2.out nq))
    clear bb4 X2 B2
    by_cases hcs : c * 48 = (s.size : Int)
    rotate_left
    · have hcm : (c * 48 != (s.size : Int)) = true := by simpa using hcs
      have e1 : R = (0, ⟨#[]⟩, 5) := by
        rw [← HR.out]
        unfold parseF
        rw [if_neg HH1.out, HF.out, if_neg (by simp), HLA.out, HC.out, if_pos hcs]
      subst e1
      clear hcs HR
      have cgq0 := (blk_cell X4.out 0).trans rfl
      have zgq0 := blk_frozen X4.out 0
      have cgq1 := (blk_cell X4.out 1).trans rfl
      have zgq1 := blk_frozen X4.out 1
      go_wp2_with fail
      refine bodyPost_ret (results_ct rfl _ _ gq 44 #[.int .u8 0, .string (⟨#[]⟩ : ByteArray)] (0, 0) _ rfl (res44 X4.out _ _) Tryd.underlying44 rfl (by kernel_rfl)) rfl ?_
      exact ⟨rfl, bel44 B4.out (by rw [HGgq.out]; exact Nat.le_refl _) _ _⟩
    have hcm : (c * 48 != (s.size : Int)) = false := by simpa using hcs
    have hnm : n ≤ m := by have := HM.out; omega
    have HCS := Lib.hid hcs
    clear hcs
    obtain ⟨z, hz⟩ : ∃ z : ByteArray, (⟨(trimZ (s.extract n m).data.toList).toArray⟩ : ByteArray) = z := ⟨_, rfl⟩
    have HZ := Lib.hid hz
    clear hz
    have hmle : m ≤ s.size := by omega
    have hzl : (trimZ (s.extract n m).data.toList) = z.toList := by rw [← HZ.out, ByteArray.toList_eq]
    have HZL := Lib.hid hzl
    clear hzl
    have w1' : (m : Int) + 1 = (p1 : Int) := by have := HP1.out; omega
    have HW1 := Lib.hid w1'
    have hb1 := HB1.out
    by_cases hb10 : b1 = 0
    rotate_left
    · have hv : ((b1.toNat : Int) != 0) = true := by
        have : b1.toNat ≠ 0 := fun h => hb10 (UInt8.toNat.inj h)
        simp; omega
      have e1 : R = (0, ⟨#[]⟩, 3) := by
        rw [← HR.out]
        unfold parseF
        rw [if_neg HH1.out, HF.out, if_neg (by simp), HLA.out, HC.out, if_neg (by simpa using HCS.out), HM8.out, HP1.out, byte_at s p1 hk1, hb1, if_pos (.inl hb10)]
      subst e1
      clear hb10 HR
      have cgq0 := (blk_cell X4.out 0).trans rfl
      have zgq0 := blk_frozen X4.out 0
      have cgq1 := (blk_cell X4.out 1).trans rfl
      have zgq1 := blk_frozen X4.out 1
      go_wp2_with fail
      refine bodyPost_ret (results_ct rfl _ _ gq 44 #[.int .u8 0, .string (⟨#[]⟩ : ByteArray)] (0, 0) _ rfl (res44 X4.out _ _) Tryd.underlying44 rfl (by kernel_rfl)) rfl ?_
      exact ⟨rfl, bel44 B4.out (by rw [HGgq.out]; exact Nat.le_refl _) _ _⟩
    have hv : ((b1.toNat : Int) != 0) = false := by rw [hb10]; rfl
    have HB10 := Lib.hid hb10
    clear hb10
    by_cases hzz : z.toList = []
    rotate_left
    · have hze : z.toList.isEmpty = false := by cases hq : z.toList with
        | nil => exact absurd hq hzz
        | cons => rfl
      have e1 : R = (0, ⟨#[]⟩, 3) := by
        rw [← HR.out]
        unfold parseF
        rw [if_neg HH1.out, HF.out, if_neg (by simp), HLA.out, HC.out, if_neg (by simpa using HCS.out), HM8.out, HP1.out, HZL.out, if_pos (.inr hzz)]
      subst e1
      clear hzz HR
      go_wp2_with fail
      refine (trim_any (s.extract n m) _ (by rw [ByteArray.size_extract]; omega)).mono ?_
      rintro e w5 ⟨rfl, q5, rfl⟩
      rw [HZ.out]
      have X5 := Lib.hid (show (w4.drewN q5).heap[gq]? = _ from X4.out)
      have B5 := Lib.hid (pw_below_drewN B4.out q5)
      clear w1' hb1
      have cgq0 := (blk_cell X5.out 0).trans rfl
      have zgq0 := blk_frozen X5.out 0
      have cgq1 := (blk_cell X5.out 1).trans rfl
      have zgq1 := blk_frozen X5.out 1
      go_wp2_with fail
      refine bodyPost_ret (results_ct rfl _ _ gq 44 #[.int .u8 0, .string (⟨#[]⟩ : ByteArray)] (0, 0) _ rfl (res44 X5.out _ _) Tryd.underlying44 rfl (by kernel_rfl)) rfl ?_
      exact ⟨rfl, bel44 B5.out (by rw [HGgq.out]; exact Nat.le_refl _) _ _⟩
    have hze : z.toList.isEmpty = true := by rw [hzz]; rfl
    have e1 : R = ((b0.toNat : Int), s.extract 0 n, 0) := by
      rw [← HR.out]
      unfold parseF
      rw [if_neg HH1.out, HF.out, if_neg (by simp), HLA.out, HC.out, if_neg (by simpa using HCS.out), HM8.out, HP1.out, HZL.out, if_neg (by rw [byte_at s p1 hk1, HB1.out, HB10.out]; simp [hzz]), byte_at s m hk0, HB0.out]
    subst e1
    clear hzz HR
    go_wp2_with fail
    refine (trim_any (s.extract n m) _ (by rw [ByteArray.size_extract]; omega)).mono ?_
    rintro e w5 ⟨rfl, q5, rfl⟩
    rw [HZ.out]
    have X5 := Lib.hid (show (w4.drewN q5).heap[gq]? = _ from X4.out)
    have B5 := Lib.hid (pw_below_drewN B4.out q5)
    clear w1' hb1
    go_wp2_with fail
    have hb0 := HB0.out
    have hns : n ≤ s.size := by omega
    have cgq0 := (blk_cell X5.out 0).trans rfl
    have zgq0 := blk_frozen X5.out 0
    have cgq1 := (blk_cell X5.out 1).trans rfl
    have zgq1 := blk_frozen X5.out 1
    go_still_tail 7, (by kernel_rfl)
    change wpList _ _ _ _ _ (World.drew _)
    have X6 := Lib.hid (blk_drew X5.out)
    have B6 := Lib.hid (below_drew1 B5.out)
    clear cgq0 zgq0 cgq1 zgq1 X5 B5 X4 B4
    generalize World.drew (w4.drewN q5) = w6 at X6 B6 ⊢
    have cgq0 := (blk_cell X6.out 0).trans rfl
    have zgq0 := blk_frozen X6.out 0
    have cgq1 := (blk_cell X6.out 1).trans rfl
    have zgq1 := blk_frozen X6.out 1
    go_wp2_with fail
    refine bodyPost_ret (results_ct rfl _ _ gq 44 #[.int .u8 (b0.toNat : Int), .string (s.extract 0 n)] (0, 0) _ rfl (res44 X6.out _ _) Tryd.underlying44 rfl (by kernel_rfl)) rfl ?_
    exact ⟨rfl, bel44 B6.out (by rw [HGgq.out]; exact Nat.le_refl _) _ _⟩
end Go.Proofs.YtjbnihaekgmhlaaDoor
namespace Go.Proofs.YtjbnihaekgmhlaaDoor
open Go.RowKit Pr Go.Proofs.YtjbnihaekgmhlaaDoorW.PrintWords
set_option linter.unusedVariables false
set_option linter.unusedSimpArgs false

theorem trim_zero (n : Nat) : trimZ (List.replicate n 0) = [] := by
  unfold trimZ Lib.trimB Lib.trimLeftB Lib.trimRightB
  have h : ∀ n : Nat, (List.replicate n (0 : UInt8)).dropWhile (fun x => x == 0) = [] := by
    intro n
    induction n with
    | zero => rfl
    | succ n ih => rw [List.replicate_succ, List.dropWhile_cons_of_pos (by rfl), ih]
  rw [List.reverse_replicate, h]
  rfl
theorem trim_nil {l : List UInt8} (h : trimZ l = []) : ∀ b ∈ l, b = 0 := by
  unfold trimZ Lib.trimB Lib.trimLeftB Lib.trimRightB at h
  have g : ∀ m : List UInt8, m.dropWhile (fun x => x == 0) = [] → ∀ b ∈ m, b = 0 := by
    intro m
    induction m with
    | nil => intro _ b hb; cases hb
    | cons a m ih =>
      intro hm b hb
      by_cases ha : a = 0
      · rw [List.dropWhile_cons_of_pos (by simpa using ha)] at hm
        rcases List.mem_cons.1 hb with rfl | hb
        · exact ha
        · exact ih hm b hb
      · rw [List.dropWhile_cons_of_neg (by simpa using ha)] at hm
        cases hm
  have h1 := g _ h
  intro b hb
  have hb2 : b ∈ l.reverse := by simpa using hb
  have hsplit := List.takeWhile_append_dropWhile (p := fun x : UInt8 => x == 0) (l := l.reverse)
  rw [← hsplit] at hb2
  rcases List.mem_append.1 hb2 with hb2 | hb2
  · have h2 : (l.reverse.takeWhile (fun x : UInt8 => x == 0)).all (fun x : UInt8 => x == 0) = true := List.all_takeWhile
    have := List.all_eq_true.1 h2 b hb2
    simpa using this
  · exact h1 b (by simpa using hb2)
theorem seal_fits (l : List UInt8) : fitsB (sealL l) = true := by
  unfold fitsB sealL
  have h4 : (PolCrc.fourB (PolCrc.sum l)).length = 4 := rfl
  rw [List.length_append, h4, Nat.add_sub_cancel, List.take_left', List.drop_left'] <;> simp
theorem body_len (u : Int) (d : List UInt8) (hd : d.length ≤ 65535) : ((frameBody u d).length : Int) = cellsI (d.length : Int) * 48 - 4 ∧ (frameBody u d).length = d.length + padF d.length + 4 := by
  have hc := cells_bd (d.length : Int) (by omega) (by omega)
  have e : (frameBody u d).length = d.length + padF d.length + 4 := by
    unfold frameBody
    simp only [List.length_append, List.length_replicate, List.length_cons, List.length_nil]
    omega
  refine ⟨?_, e⟩
  rw [e]
  unfold padF
  omega
theorem frame_len (u : Int) (d : List UInt8) (hd : d.length ≤ 65535) : ((frameL u d).length : Int) = cellsI (d.length : Int) * 48 ∧ (frameL u d).length = d.length + padF d.length + 8 := by
  have h := body_len u d hd
  unfold frameL sealL
  rw [List.length_append]
  show (((frameBody u d).length + 4 : Nat) : Int) = _ ∧ (frameBody u d).length + 4 = _
  omega
theorem size_mk (l : List UInt8) : (⟨l.toArray⟩ : ByteArray).size = l.length := by simp [ByteArray.size]
theorem byteI_nat (x : Int) (h0 : 0 ≤ x) (h1 : x < 256) : ((byteI x).toNat : Int) = x := by
  unfold byteI
  rw [UInt8.toNat_ofNat']
  omega
theorem at_off (d z : List UInt8) (x y : List UInt8) (k : Nat) (hk : k < x.length) : (d ++ (z ++ x) ++ y).getD (d.length + z.length + k) 0 = x.getD k 0 := by
  rw [List.getD_eq_getElem?_getD, List.getD_eq_getElem?_getD]
  rw [List.getElem?_append_left (by simp only [List.length_append]; omega), List.getElem?_append_right (by omega), List.getElem?_append_right (by omega)]
  congr 2
  omega
/-- A frame's bytes come back. -/
theorem parse_frame (u : Int) (d : ByteArray) (hu0 : 0 ≤ u) (hu1 : u < 256) (hd : d.size ≤ 65535) : parseF ⟨(frameL u d.data.toList).toArray⟩ = (u, d, 0) := by
  have hl : d.data.toList.length = d.size := by rw [Array.length_toList]; rfl
  have hf := frame_len u d.data.toList (by omega)
  rw [hl] at hf
  obtain ⟨hf1, hf2⟩ := hf
  have hc := cells_bd (d.size : Int) (by omega) (by omega)
  obtain ⟨N, hN⟩ : ∃ N, (frameL u d.data.toList).length = N := ⟨_, rfl⟩
  rw [hN] at hf1 hf2
  have h8 : N - 8 = d.size + padF d.size := by omega
  have hgd : ∀ k, k < 4 → (frameL u d.data.toList).getD (N - 8 + k) 0 = [byteI u, 0, byteI ((d.size : Int) / 256), byteI ((d.size : Int) % 256)].getD k 0 := by
    intro k hk
    have := at_off d.data.toList (List.replicate (padF d.size) 0) [byteI u, 0, byteI ((d.size : Int) / 256), byteI ((d.size : Int) % 256)] (PolCrc.fourB (PolCrc.sum (frameBody u d.data.toList))) k hk
    rw [hl, List.length_replicate] at this
    rw [h8, ← this]
    unfold frameL sealL frameBody
    rw [hl]
  have hlen : lenAt ⟨(frameL u d.data.toList).toArray⟩ (N - 8) = d.size := by
    unfold lenAt
    show ((frameL u d.data.toList).getD (N - 8 + 2) 0).toNat * 256 + ((frameL u d.data.toList).getD (N - 8 + 3) 0).toNat = d.size
    rw [hgd 2 (by omega), hgd 3 (by omega)]
    have b2 := byteI_nat ((d.size : Int) / 256) (by omega) (by omega)
    have b3 := byteI_nat ((d.size : Int) % 256) (by omega) (by omega)
    show (byteI ((d.size : Int) / 256)).toNat * 256 + (byteI ((d.size : Int) % 256)).toNat = d.size
    omega
  have hex : ((⟨(frameL u d.data.toList).toArray⟩ : ByteArray).extract d.size (N - 8)).data.toList = List.replicate (padF d.size) 0 := by
    rw [ByteArray.data_extract, Array.toList_extract]
    show ((frameL u d.data.toList).drop d.size).take (N - 8 - d.size) = _
    unfold frameL sealL frameBody
    rw [hl, List.append_assoc, List.append_assoc, List.drop_left' hl, List.take_left' (by rw [List.length_replicate]; omega)]
  have hd2 : (⟨(frameL u d.data.toList).toArray⟩ : ByteArray).extract 0 d.size = d := by
    apply ByteArray.ext
    rw [ByteArray.data_extract]
    apply Array.toList_inj.1
    rw [Array.toList_extract]
    show ((frameL u d.data.toList).drop 0).take (d.size - 0) = _
    unfold frameL sealL frameBody
    rw [List.drop_zero, List.append_assoc, List.take_left' (by omega)]
  unfold parseF
  rw [size_mk, hN]
  rw [if_neg (by omega)]
  show (if fitsB (frameL u d.data.toList) = false then _ else _) = _
  rw [show fitsB (frameL u d.data.toList) = true from seal_fits _, if_neg (by simp), hlen, if_neg (by omega), hex, trim_zero]
  rw [if_neg (by
    rintro (h | h)
    · exact h (hgd 1 (by omega))
    · exact h rfl)]
  rw [hd2]
  have := hgd 0 (by omega)
  rw [Nat.add_zero] at this
  show (((((frameL u d.data.toList).getD (N - 8) 0).toNat : Nat) : Int), d, 0) = _
  rw [this]
  show (((byteI u).toNat : Int), d, 0) = _
  rw [byteI_nat u hu0 hu1]
end Go.Proofs.YtjbnihaekgmhlaaDoor
namespace Go.Proofs.YtjbnihaekgmhlaaDoor
open Go.RowKit Pr Go.Proofs.YtjbnihaekgmhlaaDoorW.PrintWords
set_option linter.unusedVariables false
set_option linter.unusedSimpArgs false

theorem tab_store {w : World} {g : Nat} (h : w.heap[g]? = some (.cells (tabN 0) 27 (0, 0))) : IsTab (w.setRow g (tabN 256)) g := ⟨_, setRow_heap w g _ _ _ _ h⟩
set_option maxHeartbeats 8000000 in
set_option maxRecDepth 100000 in
theorem awake5_any (w : World) : Calls Tryd.prog 27 #[] w fun e w' => e = .returned (.bool true) ∧ Below w.heap.size w w' := by
  go_enter Tryd.func27, Tryd.ntmps27
  go_wp2_with fail
  refine (Make_any _).mono ?_
  rintro e w1 ⟨rfl, b1⟩
  go_wp2_with (first | ((with_reducible refine gate_dst (N := 1) rfl ?_); refine box_event ?hg (N := 1) ?hd (cs := tabN 0) (t := 27) ?hr ?_; (case hd => rfl); (case hg => rfl); (case hr => exact run_alloc_tab rfl); intro gt hg_ w2 hbox hb3; have HGgt := Lib.hid hg_; have HBgt := Lib.hid hb3; have HXgt := Lib.hid hbox; clear hg_ hb3 hbox) | (refine wpList_store_row rfl 27 _ _ rfl gt (tabN 256) rfl rfl 27 (tabN 0) HXgt.out (by rw [tab_size, tabN_size]) (by rw [tabN_size, tabN_size]) (tabN_one _) ?_))
  have T3 := Lib.hid (tab_store HXgt.out)
  have B3 : Hid (Below w.heap.size w (w2.setRow gt (tabN 256))) := Lib.hid (below_setRow (below_step (bel_via b1 (Below.refl _ _)) HBgt.out) (by rw [HGgt.out]; exact b1.size) _)
  generalize w2.setRow gt (tabN 256) = w3 at T3 B3 ⊢
  clear b1
  have hp := parse_frame 7 ⟨#[97, 98]⟩ (by omega) (by omega) (by decide)
  have hl : (⟨(frameL 7 (⟨#[97, 98]⟩ : ByteArray).data.toList).toArray⟩ : ByteArray).size = 48 := by
    rw [size_mk]
    have h1 := (frame_len 7 [97, 98] (by decide)).1
    have h2 : cellsI ((([97, 98] : List UInt8).length : Nat) : Int) * 48 = 48 := by decide
    rw [h2] at h1
    show (frameL 7 [97, 98]).length = 48
    omega
  have HP := Lib.hid hp
  have HL := Lib.hid hl
  clear hp hl
  refine (FBytes_ok 7 ⟨#[97, 98]⟩ gt _ (by omega) (by omega) (by decide) T3.out).mono ?_
  rintro e w4 ⟨rfl, b4⟩
  generalize (⟨(frameL 7 (⟨#[97, 98]⟩ : ByteArray).data.toList).toArray⟩ : ByteArray) = s at HP HL ⊢
  have T4 := Lib.hid (T3.out.below b4)
  have B4 := Lib.hid (bel_via b4 B3.out)
  clear b4 T3 B3
  go_wp2_with fail
  refine (FParse_any s gt _ (by rw [HL.out]; omega) T4.out).mono ?_
  rintro e w5 ⟨rfl, b5⟩
  rw [HP.out]
  have B5 := Lib.hid (bel_via b5 B4.out)
  clear b5
  have hl := HL.out
  go_wp2_with (go_at_call 30; refine (cells_any 0 _ (by omega)).mono ?_; rintro e w6 ⟨rfl, b6⟩; rw [show cellsI 0 = 1 from rfl])
  go_ret
  exact ⟨rfl, bel_via b6 (below_alloc B5.out _)⟩
/-- What it gives. -/
def polliwoglaw05_awake.f : Option Bool := some true
theorem polliwoglaw05_awake.calls (r : Bool) (w : World) (h : polliwoglaw05_awake.f = some r) : Calls Tryd.prog 27 #[] w fun e w' => e = .returned (.bool r) ∧ Below w.heap.size w w' := by
  obtain rfl := Option.some.inj h
  exact awake5_any w
end Go.Proofs.YtjbnihaekgmhlaaDoor
