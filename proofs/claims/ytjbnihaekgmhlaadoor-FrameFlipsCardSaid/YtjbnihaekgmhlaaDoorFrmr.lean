/- frame.Parse at this translation: its walk. -/
import Derived.Test.YtjbnihaekgmhlaaDoorFrmw
namespace Go.Proofs.YtjbnihaekgmhlaaDoor
open Go.RowKit Pr Go.Proofs.YtjbnihaekgmhlaaDoorW.PrintWords
set_option linter.unusedVariables false
set_option linter.unusedSimpArgs false

/-- A number of bytes, read in the last eight. -/
def lenAt (s : ByteArray) (m : Nat) : Nat := (s.data.toList.getD (m + 2) 0).toNat * 256 + (s.data.toList.getD (m + 3) 0).toNat
theorem byte_at (s : ByteArray) (k : Nat) (h : k < s.size) : s.data.toList.getD k 0 = s[k] := by
  rw [List.getD_eq_getElem?_getD, List.getElem?_eq_getElem (by rw [Array.length_toList]; exact h)]
  rfl
theorem or_len (a b : UInt8) : Go.bits .or .i64 ((a.toNat : Int) * 256) (b.toNat : Int) = (((a.toNat * 256 + b.toNat : Nat)) : Int) := by
  have ha := a.toNat_lt
  have hb := b.toNat_lt
  have := bits_join .i64 63 (by decide) (fun n h0 h1 => by rw [IntKind.wrap_i64]; omega) 8 ((a.toNat : Int) * 256) (b.toNat : Int) (by omega) (by omega) (by omega) (by omega) (by omega) (by omega)
  rw [this]
  omega
def trimZ (l : List UInt8) : List UInt8 := Lib.trimB l 0
theorem trim_any (s : ByteArray) (w : World) (hs : s.size ≤ 1000000) : Calls Tryd.prog 54 #[.string s, .string ⟨#[0]⟩] w fun e w' => e = .returned (.string ⟨(trimZ s.data.toList).toArray⟩) ∧ ∃ n, w' = w.drewN n := by
  refine (Tryd.strings_Trim_one s 0 (by decide) w (by omega)).mono ?_
  rintro e w' ⟨rfl, h | h⟩
  · exact ⟨rfl, 0, h⟩
  · exact ⟨rfl, 1, h⟩
theorem res44 {W : World} {g : Nat} {v0 v1 : Value} {t : TypeId} (h : W.heap[g]? = some (.cells #[v0, v1] t (0, 0))) (u0 u1 : Value) : ((W.setCell ⟨g, 0, none⟩ u0).setCell ⟨g, 1, none⟩ u1).heap[g]? = some (.cells #[u0, u1] t (0, 0)) := by
  have := blk_set (blk_set h 0 u0) 1 u1
  simpa using this
theorem bel44 {a w : World} {B g : Nat} (h : Below B a w) (hg : B ≤ g) (u0 u1 : Value) : Below B a ((w.setCell ⟨g, 0, none⟩ u0).setCell ⟨g, 1, none⟩ u1) :=
  (h.setCell (p := ⟨g, 0, none⟩) hg u0).setCell (p := ⟨g, 1, none⟩) hg u1
theorem empty_noF (s : ByteArray) (h0 : 0 < s.size) : s.toList.isEmpty = false := by
  rw [ByteArray.toList_eq]
  have : s.data.toList.length = s.size := by rw [Array.length_toList]; rfl
  cases hq : s.data.toList with
  | nil => rw [hq] at this; simp at this; omega
  | cons => rfl
/-- What frame.Parse answers: the user, the data, the error's number. -/
def parseF (s : ByteArray) : Int × ByteArray × Int :=
  if s.size = 0 ∨ s.size % 48 ≠ 0 then (0, ⟨#[]⟩, 5) else if fitsB s.data.toList = false then (0, ⟨#[]⟩, 4)
  else if cellsI (lenAt s (s.size - 8) : Int) * 48 ≠ (s.size : Int) then (0, ⟨#[]⟩, 5)
  else if s.data.toList.getD (s.size - 8 + 1) 0 ≠ 0 ∨ trimZ (s.extract (lenAt s (s.size - 8)) (s.size - 8)).data.toList ≠ [] then (0, ⟨#[]⟩, 3)
  else (((s.data.toList.getD (s.size - 8) 0).toNat : Int), s.extract 0 (lenAt s (s.size - 8)), 0)
set_option maxHeartbeats 16000000 in
set_option maxRecDepth 100000 in
theorem FParse_any (s : ByteArray) (g : Nat) (w : World) (hs : s.size ≤ 1000000) (hT : IsTab w g) :
    Calls Tryd.prog 22 #[.pointer (some ⟨g, 0, none⟩), .string s] w fun e w' => e = .returned (.tuple #[.agg #[.int .u8 (parseF s).1, .string (parseF s).2.1], .int .i64 (parseF s).2.2]) ∧ Below w.heap.size w w' := by
  have HT := Lib.hid hT
  obtain ⟨R, hR⟩ : ∃ R, parseF s = R := ⟨_, rfl⟩
  rw [hR]
  have HR := Lib.hid hR
  clear hT hR
  by_cases h1 : s.size = 0 ∨ s.size % 48 ≠ 0
  · have e1 : R = (0, ⟨#[]⟩, 5) := by rw [← HR.out]; unfold parseF; rw [if_pos h1]
    subst e1
    clear HR
    by_cases h0 : s.size = 0
    · have hne : s.toList.isEmpty = true := by
        have : s.data.toList = [] := List.eq_nil_of_length_eq_zero (by rw [Array.length_toList]; exact h0)
        rw [ByteArray.toList_eq, this]; rfl
      clear h1 h0
      go_enter Tryd.func22, Tryd.ntmps22
      go_wp2_with (first | ((with_reducible refine gate_dst (N := 4) rfl ?_); refine box_event ?hg (N := 4) ?hd (cs := #[.int .u8 0, .string (⟨#[]⟩ : ByteArray)]) (t := 44) ?hr ?_; (case hd => rfl); (case hg => rfl); (case hr => first | (go_simp; done) | (go_simp; rfl)); intro gq hg_ w1 hbox hb3; have cgq0 := (blk_cell hbox 0).trans rfl; have zgq0 := blk_frozen hbox 0; have cgq1 := (blk_cell hbox 1).trans rfl; have zgq1 := blk_frozen hbox 1; have HGgq := Lib.hid hg_; have HBgq := Lib.hid hb3; have HXgq := Lib.hid hbox; clear hg_ hb3 hbox))
      refine bodyPost_ret (results_ct rfl _ _ gq 44 #[.int .u8 0, .string (⟨#[]⟩ : ByteArray)] (0, 0) _ rfl (res44 HXgq.out _ _) Tryd.underlying44 rfl (by kernel_rfl)) rfl ?_
      exact ⟨rfl, bel44 HBgq.out (by rw [HGgq.out]; exact Nat.le_refl _) _ _⟩
    · have hne : s.toList.isEmpty = false := empty_noF s (by omega)
      have hq : ((s.size : Int) % 48 != 0) = true := by simp; omega
      clear h1 h0
      go_enter Tryd.func22, Tryd.ntmps22
      go_wp2_with (first | ((with_reducible refine gate_dst (N := 4) rfl ?_); refine box_event ?hg (N := 4) ?hd (cs := #[.int .u8 0, .string (⟨#[]⟩ : ByteArray)]) (t := 44) ?hr ?_; (case hd => rfl); (case hg => rfl); (case hr => first | (go_simp; done) | (go_simp; rfl)); intro gq hg_ w1 hbox hb3; have cgq0 := (blk_cell hbox 0).trans rfl; have zgq0 := blk_frozen hbox 0; have cgq1 := (blk_cell hbox 1).trans rfl; have zgq1 := blk_frozen hbox 1; have HGgq := Lib.hid hg_; have HBgq := Lib.hid hb3; have HXgq := Lib.hid hbox; clear hg_ hb3 hbox))
      refine bodyPost_ret (results_ct rfl _ _ gq 44 #[.int .u8 0, .string (⟨#[]⟩ : ByteArray)] (0, 0) _ rfl (res44 HXgq.out _ _) Tryd.underlying44 rfl (by kernel_rfl)) rfl ?_
      exact ⟨rfl, bel44 HBgq.out (by rw [HGgq.out]; exact Nat.le_refl _) _ _⟩
  have h48 : s.size % 48 = 0 := by omega
  have h0 : 48 ≤ s.size := by omega
  have hne : s.toList.isEmpty = false := empty_noF s (by omega)
  have hq : ((s.size : Int) % 48 != 0) = false := by simp; omega
  cases hf : fitsB s.data.toList with
  | false =>
    have e1 : R = (0, ⟨#[]⟩, 4) := by rw [← HR.out]; unfold parseF; rw [if_neg h1, if_pos hf]
    subst e1
    have HF := Lib.hid hf
    clear HR h1 hf h48 h0
    go_enter Tryd.func22, Tryd.ntmps22
    go_wp2_with (first | ((with_reducible refine gate_dst (N := 4) rfl ?_); refine box_event ?hg (N := 4) ?hd (cs := #[.int .u8 0, .string (⟨#[]⟩ : ByteArray)]) (t := 44) ?hr ?_; (case hd => rfl); (case hg => rfl); (case hr => first | (go_simp; done) | (go_simp; rfl)); intro gq hg_ w1 hbox hb3; have cgq0 := (blk_cell hbox 0).trans rfl; have zgq0 := blk_frozen hbox 0; have cgq1 := (blk_cell hbox 1).trans rfl; have zgq1 := blk_frozen hbox 1; have HGgq := Lib.hid hg_; have HBgq := Lib.hid hb3; have HXgq := Lib.hid hbox; clear hg_ hb3 hbox))
    have X1 := HXgq
    refine (Fits_any s g _ (by omega) (HT.out.below HBgq.out)).mono ?_
    rintro e w2 ⟨rfl, b2⟩
    rw [HF.out]
    have X2 := Lib.hid (blk_below HXgq.out b2)
    have B2 := Lib.hid (bel_via b2 HBgq.out)
    clear b2 cgq0 zgq0 cgq1 zgq1
    have cgq0 := (blk_cell X2.out 0).trans rfl
    have zgq0 := blk_frozen X2.out 0
    have cgq1 := (blk_cell X2.out 1).trans rfl
    have zgq1 := blk_frozen X2.out 1
    go_wp2_with fail
    refine bodyPost_ret (results_ct rfl _ _ gq 44 #[.int .u8 0, .string (⟨#[]⟩ : ByteArray)] (0, 0) _ rfl (res44 X2.out _ _) Tryd.underlying44 rfl (by kernel_rfl)) rfl ?_
    exact ⟨rfl, bel44 B2.out (by rw [HGgq.out]; exact Nat.le_refl _) _ _⟩
  | true =>
    have HF := Lib.hid hf
    clear hf
    obtain ⟨m, hm⟩ : ∃ m, s.size = m + 8 := ⟨s.size - 8, by omega⟩
    have hm8 : s.size - 8 = m := by omega
    have hk0 : m < s.size := by omega
    obtain ⟨p1, hp1⟩ : ∃ p, m + 1 = p := ⟨_, rfl⟩
    have hk1 : p1 < s.size := by omega
    obtain ⟨p2, hp2⟩ : ∃ p, m + 2 = p := ⟨_, rfl⟩
    have hk2 : p2 < s.size := by omega
    obtain ⟨p3, hp3⟩ : ∃ p, m + 3 = p := ⟨_, rfl⟩
    have hk3 : p3 < s.size := by omega
    obtain ⟨b0, hb0⟩ : ∃ b, s[m]'hk0 = b := ⟨_, rfl⟩
    obtain ⟨b1, hb1⟩ : ∃ b, s[p1]'hk1 = b := ⟨_, rfl⟩
    obtain ⟨b2, hb2⟩ : ∃ b, s[p2]'hk2 = b := ⟨_, rfl⟩
    obtain ⟨b3, hb3⟩ : ∃ b, s[p3]'hk3 = b := ⟨_, rfl⟩
    obtain ⟨n, hn⟩ : ∃ n, b2.toNat * 256 + b3.toNat = n := ⟨_, rfl⟩
    have hla : lenAt s (s.size - 8) = n := by
      unfold lenAt
      rw [hm8, hp2, hp3, byte_at s p2 hk2, byte_at s p3 hk3, hb2, hb3, hn]
    have hor : Go.bits .or .i64 ((b2.toNat : Int) * 256) (b3.toNat : Int) = (n : Int) := by rw [or_len, hn]
    have hn1 : n ≤ 65535 := by have := b2.toNat_lt; have := b3.toNat_lt; omega
    have HLA := Lib.hid hla
    have HOR := Lib.hid hor
    have HM := Lib.hid hm
    have HP1 := Lib.hid hp1
    have HP2 := Lib.hid hp2
    have HP3 := Lib.hid hp3
    have HM8 := Lib.hid hm8
    have HB0 := Lib.hid hb0
    have HB1 := Lib.hid hb1
    have HB2 := Lib.hid hb2
    have HB3 := Lib.hid hb3
    have HH1 := Lib.hid h1
    have HH48 := Lib.hid h48
    clear hp1 hp2 hp3 hla hor hm hm8 hb0 hb1 hb2 hb3 hn h1 h48
    go_enter Tryd.func22, Tryd.ntmps22
    go_wp2_with (first | ((with_reducible refine gate_dst (N := 4) rfl ?_); refine box_event ?hg (N := 4) ?hd (cs := #[.int .u8 0, .string (⟨#[]⟩ : ByteArray)]) (t := 44) ?hr ?_; (case hd => rfl); (case hg => rfl); (case hr => first | (go_simp; done) | (go_simp; rfl)); intro gq hg_ w1 hbox hb3; have cgq0 := (blk_cell hbox 0).trans rfl; have zgq0 := blk_frozen hbox 0; have cgq1 := (blk_cell hbox 1).trans rfl; have zgq1 := blk_frozen hbox 1; have HGgq := Lib.hid hg_; have HBgq := Lib.hid hb3; have HXgq := Lib.hid hbox; clear hg_ hb3 hbox))
    refine (Fits_any s g _ (by omega) (HT.out.below HBgq.out)).mono ?_
    rintro e w2 ⟨rfl, bb2⟩
    rw [HF.out]
    have X2 := Lib.hid (blk_below HXgq.out bb2)
    have B2 := Lib.hid (bel_via bb2 HBgq.out)
    clear bb2 cgq0 zgq0 cgq1 zgq1
    go_wp2_with fail
    have em : (s.size : Int) - 8 = (m : Int) := by have := HM.out; omega
    rw [em]
    clear em
    have w1 : IntKind.i64.wrap ((m : Int) + 1) = (p1 : Int) := by have := HP1.out; rw [IntKind.wrap_i64]; omega
    have w2_ : IntKind.i64.wrap ((m : Int) + 2) = (p2 : Int) := by have := HP2.out; rw [IntKind.wrap_i64]; omega
    have w3 : IntKind.i64.wrap ((m : Int) + 3) = (p3 : Int) := by have := HP3.out; rw [IntKind.wrap_i64]; omega
    have hb2 := HB2.out
    have hb3 := HB3.out
    have hor := HOR.out
    have hv2 := b2.toNat_lt
    have hv3 := b3.toNat_lt
    go_quiet (fail)
    clear w1 w2_ w3 hb2 hb3 hor hv2 hv3
    obtain ⟨c, hc⟩ : ∃ c, cellsI (n : Int) = c := ⟨_, rfl⟩
    have hcb := cells_bd (n : Int) (by omega) (by omega)
    rw [hc] at hcb
    obtain ⟨hc1, hc2, hc3, hc4⟩ := hcb
    have HC := Lib.hid hc
    clear hc
    go_wp2_with fail
    refine (cells_any (n : Int) _ (by omega)).mono ?_
    rintro e w4 ⟨rfl, bb4⟩
    rw [HC.out]
    have X4 := Lib.hid (blk_below (w := w2.drewN nq) X2.out bb4)
    have B4 := Lib.hid (bel_via bb4 (pw_below_drewN B2.out nq))
    clear bb4 X2 B2
    by_cases hcs : c * 48 = (s.size : Int)
    rotate_left
    · have hcm : (c * 48 != (s.size : Int)) = true := by simpa using hcs
      have e1 : R = (0, ⟨#[]⟩, 5) := by
        rw [← HR.out]
        unfold parseF
        rw [if_neg HH1.out, HF.out, if_neg (by simp), HLA.out, HC.out, if_pos hcs]
      subst e1
      clear hcs HR
      have cgq0 := (blk_cell X4.out 0).trans rfl
      have zgq0 := blk_frozen X4.out 0
      have cgq1 := (blk_cell X4.out 1).trans rfl
      have zgq1 := blk_frozen X4.out 1
      go_wp2_with fail
      refine bodyPost_ret (results_ct rfl _ _ gq 44 #[.int .u8 0, .string (⟨#[]⟩ : ByteArray)] (0, 0) _ rfl (res44 X4.out _ _) Tryd.underlying44 rfl (by kernel_rfl)) rfl ?_
      exact ⟨rfl, bel44 B4.out (by rw [HGgq.out]; exact Nat.le_refl _) _ _⟩
    have hcm : (c * 48 != (s.size : Int)) = false := by simpa using hcs
    have hnm : n ≤ m := by have := HM.out; omega
    have HCS := Lib.hid hcs
    clear hcs
    obtain ⟨z, hz⟩ : ∃ z : ByteArray, (⟨(trimZ (s.extract n m).data.toList).toArray⟩ : ByteArray) = z := ⟨_, rfl⟩
    have HZ := Lib.hid hz
    clear hz
    have hmle : m ≤ s.size := by omega
    have hzl : (trimZ (s.extract n m).data.toList) = z.toList := by rw [← HZ.out, ByteArray.toList_eq]
    have HZL := Lib.hid hzl
    clear hzl
    have w1' : (m : Int) + 1 = (p1 : Int) := by have := HP1.out; omega
    have HW1 := Lib.hid w1'
    have hb1 := HB1.out
    by_cases hb10 : b1 = 0
    rotate_left
    · have hv : ((b1.toNat : Int) != 0) = true := by
        have : b1.toNat ≠ 0 := fun h => hb10 (UInt8.toNat.inj h)
        simp; omega
      have e1 : R = (0, ⟨#[]⟩, 3) := by
        rw [← HR.out]
        unfold parseF
        rw [if_neg HH1.out, HF.out, if_neg (by simp), HLA.out, HC.out, if_neg (by simpa using HCS.out), HM8.out, HP1.out, byte_at s p1 hk1, hb1, if_pos (.inl hb10)]
      subst e1
      clear hb10 HR
      have cgq0 := (blk_cell X4.out 0).trans rfl
      have zgq0 := blk_frozen X4.out 0
      have cgq1 := (blk_cell X4.out 1).trans rfl
      have zgq1 := blk_frozen X4.out 1
      go_wp2_with fail
      refine bodyPost_ret (results_ct rfl _ _ gq 44 #[.int .u8 0, .string (⟨#[]⟩ : ByteArray)] (0, 0) _ rfl (res44 X4.out _ _) Tryd.underlying44 rfl (by kernel_rfl)) rfl ?_
      exact ⟨rfl, bel44 B4.out (by rw [HGgq.out]; exact Nat.le_refl _) _ _⟩
    have hv : ((b1.toNat : Int) != 0) = false := by rw [hb10]; rfl
    have HB10 := Lib.hid hb10
    clear hb10
    by_cases hzz : z.toList = []
    rotate_left
    · have hze : z.toList.isEmpty = false := by cases hq : z.toList with
        | nil => exact absurd hq hzz
        | cons => rfl
      have e1 : R = (0, ⟨#[]⟩, 3) := by
        rw [← HR.out]
        unfold parseF
        rw [if_neg HH1.out, HF.out, if_neg (by simp), HLA.out, HC.out, if_neg (by simpa using HCS.out), HM8.out, HP1.out, HZL.out, if_pos (.inr hzz)]
      subst e1
      clear hzz HR
      go_wp2_with fail
      refine (trim_any (s.extract n m) _ (by rw [ByteArray.size_extract]; omega)).mono ?_
      rintro e w5 ⟨rfl, q5, rfl⟩
      rw [HZ.out]
      have X5 := Lib.hid (show (w4.drewN q5).heap[gq]? = _ from X4.out)
      have B5 := Lib.hid (pw_below_drewN B4.out q5)
      clear w1' hb1
      have cgq0 := (blk_cell X5.out 0).trans rfl
      have zgq0 := blk_frozen X5.out 0
      have cgq1 := (blk_cell X5.out 1).trans rfl
      have zgq1 := blk_frozen X5.out 1
      go_wp2_with fail
      refine bodyPost_ret (results_ct rfl _ _ gq 44 #[.int .u8 0, .string (⟨#[]⟩ : ByteArray)] (0, 0) _ rfl (res44 X5.out _ _) Tryd.underlying44 rfl (by kernel_rfl)) rfl ?_
      exact ⟨rfl, bel44 B5.out (by rw [HGgq.out]; exact Nat.le_refl _) _ _⟩
    have hze : z.toList.isEmpty = true := by rw [hzz]; rfl
    have e1 : R = ((b0.toNat : Int), s.extract 0 n, 0) := by
      rw [← HR.out]
      unfold parseF
      rw [if_neg HH1.out, HF.out, if_neg (by simp), HLA.out, HC.out, if_neg (by simpa using HCS.out), HM8.out, HP1.out, HZL.out, if_neg (by rw [byte_at s p1 hk1, HB1.out, HB10.out]; simp [hzz]), byte_at s m hk0, HB0.out]
    subst e1
    clear hzz HR
    go_wp2_with fail
    refine (trim_any (s.extract n m) _ (by rw [ByteArray.size_extract]; omega)).mono ?_
    rintro e w5 ⟨rfl, q5, rfl⟩
    rw [HZ.out]
    have X5 := Lib.hid (show (w4.drewN q5).heap[gq]? = _ from X4.out)
    have B5 := Lib.hid (pw_below_drewN B4.out q5)
    clear w1' hb1
    go_wp2_with fail
    have hb0 := HB0.out
    have hns : n ≤ s.size := by omega
    have cgq0 := (blk_cell X5.out 0).trans rfl
    have zgq0 := blk_frozen X5.out 0
    have cgq1 := (blk_cell X5.out 1).trans rfl
    have zgq1 := blk_frozen X5.out 1
    go_still_tail 7, (by kernel_rfl)
    change wpList _ _ _ _ _ (World.drew _)
    have X6 := Lib.hid (blk_drew X5.out)
    have B6 := Lib.hid (below_drew1 B5.out)
    clear cgq0 zgq0 cgq1 zgq1 X5 B5 X4 B4
    generalize World.drew (w4.drewN q5) = w6 at X6 B6 ⊢
    have cgq0 := (blk_cell X6.out 0).trans rfl
    have zgq0 := blk_frozen X6.out 0
    have cgq1 := (blk_cell X6.out 1).trans rfl
    have zgq1 := blk_frozen X6.out 1
    go_wp2_with fail
    refine bodyPost_ret (results_ct rfl _ _ gq 44 #[.int .u8 (b0.toNat : Int), .string (s.extract 0 n)] (0, 0) _ rfl (res44 X6.out _ _) Tryd.underlying44 rfl (by kernel_rfl)) rfl ?_
    exact ⟨rfl, bel44 B6.out (by rw [HGgq.out]; exact Nat.le_refl _) _ _⟩
end Go.Proofs.YtjbnihaekgmhlaaDoor
