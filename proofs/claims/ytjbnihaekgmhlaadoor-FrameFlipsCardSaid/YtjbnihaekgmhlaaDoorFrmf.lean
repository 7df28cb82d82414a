/- A frame's bytes with bits turned within 32 are told: its walk. -/
import Derived.Test.YtjbnihaekgmhlaaDoorFrmu
import Derived.Test.YtjbnihaekgmhlaaDoorFlip
namespace Go.Proofs.YtjbnihaekgmhlaaDoor
open Go.RowKit Pr Go.Proofs.YtjbnihaekgmhlaaDoorW.PrintWords Go.Proofs.YtjbnihaekgmhlaaDoorW.PrintLast Go.Proofs.YtjbnihaekgmhlaaDoorW.PrintMore
attribute [local go_sem] max2_int min2_int max_two min_two max_three min_three max_four min_four   -- for this text's walks alone
set_option linter.unusedVariables false
set_option linter.unusedSimpArgs false

theorem fits_br (t : List UInt8) (h : fitsB t = true) : PolCrc.br 0xffffffff#32 (PolCrc.bitsL t) = PolCrc.sn 32 0xffffffff#32 := by
  unfold fitsB at h
  rw [Bool.and_eq_true] at h
  have h2 := eq_of_beq h.2
  have e : t = t.take (t.length - 4) ++ PolCrc.fourB (PolCrc.sum (t.take (t.length - 4))) := by rw [h2, List.take_append_drop]
  rw [e]
  exact (PolCrc.fits_iff _ _).2 rfl
/-- Bits turned: it fits no more, or none was turned. -/
theorem turn_fits (l : List UInt8) (at_ : Int) (m : Nat) (h : fitsB l = true) (hne : turnN l at_ m 32 ≠ l) : fitsB (turnN l at_ m 32) = false := by
  cases hq : fitsB (turnN l at_ m 32) with
  | false => rfl
  | true =>
    obtain ⟨a, c, v, h1, h2, h3⟩ := turn_pattern l at_ m
    exact absurd (PolCrc.bitsL_inj (PolCrc.turned l _ a c v h1 h3 h2 (fits_br l h) (fits_br _ hq))) hne
theorem parse_turned (u : Int) (d : ByteArray) (at_ : Int) (m : Nat) (hd : d.size ≤ 65535) (hne : turnN (frameL u d.data.toList) at_ m 32 ≠ frameL u d.data.toList) : parseF ⟨(turnN (frameL u d.data.toList) at_ m 32).toArray⟩ = (0, ⟨#[]⟩, 4) := by
  have hl : d.data.toList.length = d.size := by rw [Array.length_toList]; rfl
  have hf := frame_len u d.data.toList (by omega)
  rw [hl] at hf
  have hc := cells_bd (d.size : Int) (by omega) (by omega)
  have hn := turn_fits _ at_ m (by unfold frameL; exact seal_fits _) hne
  have hs : (⟨(turnN (frameL u d.data.toList) at_ m 32).toArray⟩ : ByteArray).size = (frameL u d.data.toList).length := by rw [size_mk, turnN_len]
  unfold parseF
  rw [hs, if_neg (by omega), if_pos hn]
set_option maxHeartbeats 16000000 in
set_option maxRecDepth 100000 in
theorem FrameFlips_walk (u : Int) (A : ByteArray) (P : Int) (m : Int) (w : World) (hu : (Lit.int .u8 u).wf = true) (_ : A.size ≤ maxLen) (hP : (Lit.int .i64 P).wf = true) (hm : (Lit.int .u32 m).wf = true) :
    Calls Tryd.prog 9 #[.agg #[.int .u8 u, .string A, .int .i64 P, .int .u32 m]] w fun e w' => e = .returned (.bool true) ∧ Below w.heap.size w w' := by
  obtain ⟨hu0, hu1⟩ := bounds_u8 hu
  obtain ⟨hP0, hP1⟩ := bounds_i64 hP
  obtain ⟨hm0, hm1⟩ := bounds_u32 hm
  clear hu hP hm
  obtain ⟨M, rfl⟩ : ∃ M : Nat, m = (M : Int) := ⟨m.toNat, by omega⟩
  go_enter Tryd.func9, Tryd.ntmps9
  go_wp2_with fail
  refine (awake5_any _).mono ?_
  rintro e w0 ⟨rfl, b0⟩
  have U0 := Lib.hid (blk_below (blk_new w _) b0)
  have B0 := Lib.hid (bel_via b0 (below_alloc (Below.refl _ _) _))
  clear b0
  have c0 := (blk_cell U0.out 0).trans rfl
  have c1 := (blk_cell U0.out 1).trans rfl
  have c2 := (blk_cell U0.out 2).trans rfl
  have c3 := (blk_cell U0.out 3).trans rfl
  go_wp2
  go_quiet (fail)
  clear c0 c1 c2 c3
  have c0 := (blk_cell (show (w0.drewN nq).heap[w.heap.size]? = _ from U0.out) 0).trans rfl
  have c1 := (blk_cell (show (w0.drewN nq).heap[w.heap.size]? = _ from U0.out) 1).trans rfl
  go_wp2_with fail
  refine (cut200 A _).mono ?_
  rintro e w9 ⟨rfl, q9, rfl⟩
  have hds := cutB_size A 200
  generalize cutB A 200 = d at hds ⊢
  have B0' := Lib.hid (pw_below_drewN (pw_below_drewN B0.out nq) q9)
  clear c0 c1 U0 B0
  generalize (w0.drewN nq).drewN q9 = w8 at B0' ⊢
  go_wp2_with fail
  refine (Make_any _).mono ?_
  rintro e w1 ⟨rfl, b1⟩
  have B1 := Lib.hid (bel_via b1 B0'.out)
  clear b1 B0'
  go_upto_region 6 with (first | ((with_reducible refine gate_dst (N := 7) rfl ?_); refine box_event ?hg (N := 7) ?hd (cs := tabN 0) (t := 27) ?hr ?_; (case hd => rfl); (case hg => rfl); (case hr => exact run_alloc_tab rfl); intro gt hg_ w2 hbox hb3; have HGgt := Lib.hid hg_; have HBgt := Lib.hid hb3; have HXgt := Lib.hid hbox; clear hg_ hb3 hbox) | (refine wpList_store_row rfl 27 _ _ rfl gt (tabN 256) rfl rfl 27 (tabN 0) HXgt.out (by rw [tab_size, tabN_size]) (by rw [tabN_size, tabN_size]) (tabN_one _) ?_))
  have T3 := Lib.hid (tab_store HXgt.out)
  have B3 : Hid (Below w.heap.size w (w2.setRow gt (tabN 256))) := Lib.hid (below_setRow (below_step B1.out HBgt.out) (by rw [HGgt.out]; exact B1.out.size) _)
  generalize w2.setRow gt (tabN 256) = w3 at T3 B3 ⊢
  clear B1
  have hp := parse_frame u d hu0 (by omega) (by omega)
  have hl := frame_len u d.data.toList (by rw [Array.length_toList]; show d.size ≤ 65535; omega)
  have hlz : d.data.toList.length = d.size := by rw [Array.length_toList]; rfl
  rw [hlz] at hl
  have hcb := cells_bd (d.size : Int) (by omega) (by omega)
  have htu := parse_turned u d
  go_wp2_with fail
  refine (FBytes_ok u d gt _ hu0 (by omega) (by omega) T3.out).mono ?_
  rintro e w5 ⟨rfl, b5⟩
  obtain ⟨F, hF⟩ : ∃ F, frameL u d.data.toList = F := ⟨_, rfl⟩
  rw [hF] at hp hl htu ⊢
  obtain ⟨S, hS⟩ : ∃ q : ByteArray, (⟨F.toArray⟩ : ByteArray) = q := ⟨_, rfl⟩
  have hSd : S.data.toList = F := by rw [← hS]
  have hSn : S.size = F.length := by rw [← hS, size_mk]
  rw [hS] at hp ⊢
  have HP := Lib.hid hp
  have HTU := Lib.hid htu
  have HSd := Lib.hid hSd
  have B5 := Lib.hid (bel_via b5 B3.out)
  have T5 := Lib.hid (T3.out.below b5)
  obtain ⟨c, hc⟩ : ∃ c, cellsI (d.size : Int) = c := ⟨_, rfl⟩
  rw [hc] at hcb hl
  obtain ⟨hc1, hc2, hc3, hc4⟩ := hcb
  have hSb : S.size ≤ 1000 := by omega
  clear hp htu hl hlz hc hS hSd hSn b5 B3 T3 hF
  obtain ⟨n, hn⟩ : ∃ n, S.size = n := ⟨_, rfl⟩
  have hSb2 : n ≤ 1000 := by omega
  go_upto_region 8 with fail
  obtain ⟨Q, hQ⟩ : ∃ Q : Int, (if -40 < (if 8 * (n : Int) + 4 < P then 8 * (n : Int) + 4 else P) then (if 8 * (n : Int) + 4 < P then 8 * (n : Int) + 4 else P) else -40) = Q := ⟨_, rfl⟩
  have hQ0 : -1000 ≤ Q ∧ Q ≤ 100000000 := by omega
  rw [hQ]
  clear hQ
  generalize (if 8 * (n : Int) + 4 < P then 8 * (n : Int) + 4 else P) = m1
  obtain ⟨hq0, hq1⟩ := hQ0
  obtain ⟨T, hT⟩ : ∃ T : ByteArray, (⟨(turnN S.data.toList Q M 32).toArray⟩ : ByteArray) = T := ⟨_, rfl⟩
  have hTn : T.size = S.size := by rw [← hT, size_mk, turnN_len, Array.length_toList]; rfl
  have hTT : (⟨(turnN T.data.toList Q M 32).toArray⟩ : ByteArray) = S := by
    rw [← hT]
    show (⟨(turnN (turnN S.data.toList Q M 32) Q M 32).toArray⟩ : ByteArray) = S
    rw [turn_twice]
  have hne : T ≠ S → parseF T = (0, ⟨#[]⟩, 4) := by
    intro h
    have := HTU.out Q M (by omega)
    rw [← HSd.out, hT] at this
    apply this
    intro h2
    apply h
    rw [← hT, h2]
  have HT := Lib.hid hT
  have HTT := Lib.hid hTT
  have HNE := Lib.hid hne
  have hTb : T.size ≤ 1000 := by omega
  have hMb : M < 4294967296 := by omega
  clear hT hTT hne HTU HSd hTn
  go_wp2_with fail
  refine (Flip_any S Q M _ (by omega) hq0 hq1 hMb).mono ?_
  rintro e w6 ⟨rfl, b6⟩
  rw [HT.out]
  have B6 := Lib.hid (bel_via b6 B5.out)
  have T6 := Lib.hid (T5.out.below b6)
  clear b6 B5 T5
  go_wp2_with fail
  refine (Turn_any S Q M _ (by omega) hq0 hq1 hMb).mono ?_
  rintro e w7 ⟨rfl, b7⟩
  rw [HT.out]
  have B7 := Lib.hid (bel_via b7 B6.out)
  have T7 := Lib.hid (T6.out.below b7)
  clear b7 B6 T6
  have gT : (T.toList == T.toList) = true := by simp
  go_wp2_with fail
  refine (Flip_any T Q M _ (by omega) hq0 hq1 hMb).mono ?_
  rintro e w8b ⟨rfl, b8⟩
  rw [HTT.out]
  have B8 := Lib.hid (bel_via b8 B7.out)
  have T8 := Lib.hid (T7.out.below b8)
  clear b8 B7 T7
  have gS : (S.toList == S.toList) = true := by simp
  go_wp2_with fail
  refine (FParse_any T gt _ (by omega) T8.out).mono ?_
  rintro e w9b ⟨rfl, b9⟩
  have B9 := Lib.hid (bel_via b9 B8.out)
  clear b9 B8 T8
  by_cases hTS : T = S
  · subst hTS
    rw [HP.out]
    have gd : (d.toList == d.toList) = true := by simp
    go_wp2
    go_ret
    exact ⟨by rfl, below_alloc B9.out _⟩
  · rw [HNE.out hTS]
    have gne : (T.toList == S.toList) = false := by
      rw [beq_eq_false_iff_ne]
      intro h
      exact hTS (by rw [ByteArray.toList_eq, ByteArray.toList_eq] at h; exact ByteArray.ext (Array.toList_inj.1 h))
    go_wp2
    go_ret
    exact ⟨by rfl, below_alloc B9.out _⟩
end Go.Proofs.YtjbnihaekgmhlaaDoor
