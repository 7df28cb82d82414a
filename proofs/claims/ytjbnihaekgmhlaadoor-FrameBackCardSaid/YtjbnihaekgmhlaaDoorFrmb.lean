/- A frame's bytes are the document's, and come back: its walk. -/
import Derived.Test.YtjbnihaekgmhlaaDoorFrmu
import Derived.Test.YtjbnihaekgmhlaaDoorRefb
namespace Go.Proofs.YtjbnihaekgmhlaaDoor
open Go.RowKit Pr Go.Proofs.YtjbnihaekgmhlaaDoorW.PrintWords Go.Proofs.YtjbnihaekgmhlaaDoorW.PrintLast Go.Proofs.YtjbnihaekgmhlaaDoorW.PrintMore
attribute [local go_sem] max2_int min2_int max_two min_two max_three min_three max_four min_four   -- for this text's walks alone
set_option linter.unusedVariables false
set_option linter.unusedSimpArgs false

set_option maxHeartbeats 16000000 in
set_option maxRecDepth 100000 in
theorem FrameBack_walk (u : Int) (D : ByteArray) (w : World) (hu : (Lit.int .u8 u).wf = true) (_ : D.size ≤ 140737488351232) :
    Calls Tryd.prog 4 #[.int .u8 u, .string D] w fun e w' => e = .returned (.bool true) ∧ Below w.heap.size w w' := by
  obtain ⟨hu0, hu1⟩ := bounds_u8 hu
  clear hu
  go_enter Tryd.func4, Tryd.ntmps4
  go_wp2_with fail
  refine (awake5_any _).mono ?_
  rintro e w0 ⟨rfl, b0⟩
  have B0 := Lib.hid (bel_via b0 (Below.refl w.heap.size w))
  clear b0
  go_wp2_with fail
  refine (cut400 D _).mono ?_
  rintro e w9 ⟨rfl, q9, rfl⟩
  have hds := cutB_size D 400
  generalize cutB D 400 = d at hds ⊢
  go_wp2_with fail
  refine (Make_any _).mono ?_
  rintro e w1 ⟨rfl, b1⟩
  have B1 := Lib.hid (bel_via b1 (pw_below_drewN B0.out q9))
  clear b1 B0
  go_upto_region 5 with (first | ((with_reducible refine gate_dst (N := 5) rfl ?_); refine box_event ?hg (N := 5) ?hd (cs := tabN 0) (t := 27) ?hr ?_; (case hd => rfl); (case hg => rfl); (case hr => exact run_alloc_tab rfl); intro gt hg_ w2 hbox hb3; have HGgt := Lib.hid hg_; have HBgt := Lib.hid hb3; have HXgt := Lib.hid hbox; clear hg_ hb3 hbox) | (refine wpList_store_row rfl 27 _ _ rfl gt (tabN 256) rfl rfl 27 (tabN 0) HXgt.out (by rw [tab_size, tabN_size]) (by rw [tabN_size, tabN_size]) (tabN_one _) ?_))
  have T3 := Lib.hid (tab_store HXgt.out)
  have B3 : Hid (Below w.heap.size w (w2.setRow gt (tabN 256))) := Lib.hid (below_setRow (below_step B1.out HBgt.out) (by rw [HGgt.out]; exact B1.out.size) _)
  generalize w2.setRow gt (tabN 256) = w3 at T3 B3 ⊢
  clear B1
  have hp := parse_frame u d hu0 (by omega) (by omega)
  have hl := frame_len u d.data.toList (by rw [Array.length_toList]; show d.size ≤ 65535; omega)
  have hlz : d.data.toList.length = d.size := by rw [Array.length_toList]; rfl
  rw [hlz] at hl
  have hcb := cells_bd (d.size : Int) (by omega) (by omega)
  go_wp2_with fail
  refine (FBytes_ok u d gt _ hu0 (by omega) (by omega) T3.out).mono ?_
  rintro e w5 ⟨rfl, b5⟩
  obtain ⟨S, hS⟩ : ∃ q : ByteArray, (⟨(frameL u d.data.toList).toArray⟩ : ByteArray) = q := ⟨_, rfl⟩
  have hSz : (S.size : Int) = cellsI (d.size : Int) * 48 := by rw [← hS, size_mk]; exact hl.1
  rw [hS] at hp ⊢
  have HS := Lib.hid hS
  have HP := Lib.hid hp
  have B5 := Lib.hid (bel_via b5 B3.out)
  have T5 := Lib.hid (T3.out.below b5)
  obtain ⟨c, hc⟩ : ∃ c, cellsI (d.size : Int) = c := ⟨_, rfl⟩
  rw [hc] at hcb hSz
  obtain ⟨hc1, hc2, hc3, hc4⟩ := hcb
  have HC := Lib.hid hc
  have g1 : (c == (S.size : Int) / 48) = true := by simp; omega
  have hSb : S.size ≤ 1000000 := by omega
  clear hp hl hlz hc hS b5 B3 T3 hSz
  go_wp2_with fail
  refine (FParse_any S gt _ hSb T5.out).mono ?_
  rintro e w6 ⟨rfl, b6⟩
  rw [HP.out]
  have B6 := Lib.hid (bel_via b6 B5.out)
  clear b6
  have gS : (S.toList == S.toList) = true := by simp
  go_wp2_with fail
  refine (refBytes_any u d _ hu0 (by omega) (by omega)).mono ?_
  rintro e w7 ⟨rfl, b7⟩
  rw [HS.out]
  have X6 := Lib.hid (blk_below (blk_new w6 (.cells #[.int .u8 u, .string d] 44 (0, 0))) b7)
  have B7 := Lib.hid (bel_via b7 (below_alloc B6.out _))
  clear b7
  have c0 : w7.cell? ⟨w6.heap.size, 0, none⟩ = some (.int .u8 u) := (blk_cell X6.out 0).trans rfl
  have c1 : w7.cell? ⟨w6.heap.size, 1, none⟩ = some (.string d) := (blk_cell X6.out 1).trans rfl
  have gd : (d.toList == d.toList) = true := by simp
  have gu : (u == u) = true := by simp
  go_wp2_with fail
  refine (cells_any (d.size : Int) _ (by omega)).mono ?_
  rintro e w8 ⟨rfl, b8⟩
  rw [HC.out]
  go_wp2_with fail
  go_ret
  exact ⟨by rfl, bel_via b8 B7.out⟩
end Go.Proofs.YtjbnihaekgmhlaaDoor
