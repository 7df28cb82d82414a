/- The longest data go, longer ones are told: its walk. -/
import Derived.Test.YtjbnihaekgmhlaaDoorFrmu
namespace Go.Proofs.YtjbnihaekgmhlaaDoor
open Go.RowKit Pr Go.Proofs.YtjbnihaekgmhlaaDoorW.PrintWords Go.Proofs.YtjbnihaekgmhlaaDoorW.PrintLast Go.Proofs.YtjbnihaekgmhlaaDoorW.PrintMore
attribute [local go_sem] max2_int min2_int max_two min_two max_three min_three max_four min_four   -- for this text's walks alone
set_option linter.unusedVariables false
set_option linter.unusedSimpArgs false

theorem zeros_str (n : Nat) : strOfNums (List.replicate n 0) = ⟨(List.replicate n (0 : UInt8)).toArray⟩ := by
  apply ByteArray.ext
  apply Array.toList_inj.1
  unfold strOfNums
  simp
theorem make_conv {P : Program} {ops : Array Oper} {Q : Exit → Act → World → Prop} : True := trivial
set_option maxHeartbeats 16000000 in
set_option maxRecDepth 100000 in
theorem FrameLong_walk (a0 : Int) (w : World) (h : (Lit.int .i64 a0).wf = true) :
    Calls Tryd.prog 6 #[.int .i64 a0] w fun e w' => e = .returned (.bool true) ∧ Below w.heap.size w w' := by
  obtain ⟨N, hN⟩ : ∃ N : Int, (if 0 < (if 65540 < a0 then 65540 else a0) then (if 65540 < a0 then 65540 else a0) else 0) = N := ⟨_, rfl⟩
  have hN0 : 0 ≤ N ∧ N ≤ 65540 := by omega
  obtain ⟨n, rfl⟩ : ∃ n : Nat, N = (n : Int) := ⟨N.toNat, by omega⟩
  have hn : n ≤ 65540 := by omega
  have HN := Lib.hid hN
  clear hN hN0 h
  go_enter Tryd.func6, Tryd.ntmps6
  go_wp2_with fail
  refine (awake5_any _).mono ?_
  rintro e w0 ⟨rfl, b0⟩
  have B0 := Lib.hid (bel_via b0 (Below.refl w.heap.size w))
  clear b0
  go_upto_region 4 with fail
  rw [HN.out]
  generalize (if 65540 < a0 then (65540 : Int) else a0) = m1
  go_wp2_with fail
  refine (Make_any _).mono ?_
  rintro e w1 ⟨rfl, b1⟩
  have B1 := Lib.hid (bel_via b1 B0.out)
  clear b1 B0
  go_upto_region 5 with (first | ((with_reducible refine gate_dst (N := 3) rfl ?_); refine box_event ?hg (N := 3) ?hd (cs := tabN 0) (t := 27) ?hr ?_; (case hd => rfl); (case hg => rfl); (case hr => exact run_alloc_tab rfl); intro gt hg_ w2 hbox hb3; have HGgt := Lib.hid hg_; have HBgt := Lib.hid hb3; have HXgt := Lib.hid hbox; clear hg_ hb3 hbox) | (refine wpList_store_row rfl 27 _ _ rfl gt (tabN 256) rfl rfl 27 (tabN 0) HXgt.out (by rw [tab_size, tabN_size]) (by rw [tabN_size, tabN_size]) (tabN_one _) ?_))
  have T3 := Lib.hid (tab_store HXgt.out)
  have B3 : Hid (Below w.heap.size w (w2.setRow gt (tabN 256))) := Lib.hid (below_setRow (below_step B1.out HBgt.out) (by rw [HGgt.out]; exact B1.out.size) _)
  generalize w2.setRow gt (tabN 256) = w3 at T3 B3 ⊢
  clear B1
  go_upto_region 6 with (first | ((with_reducible refine gate_dst (N := 16) rfl ?_); refine Kd.R_make (Kd.int .u8) _ 5 rfl (N := 16) rfl 64 (.tmp 15) (.tmp 15) rfl (n : Int) rfl rfl Tryd.underlying64 (.int .u8 0) 1 (by kernel_rfl) rfl (by decide) (by decide) (0 : Int) (ok := fun _ => True) (okp := fun _ => True) rfl (fun _ hk => hk) trivial (by omega) (by omega) (Below.refl _ _) (Nat.le_refl _) ?_; intro v171 w4 ho3 hb3 hg_ hnew_; clear hg_ hnew_; have hcv4 := own_string (P := Tryd.prog) Tryd.underlying64 Tryd.underlying5 Tryd.underlying9 (Kd.own_of_R ho3)))
  rw [zeros_str]
  obtain ⟨Z, hZ⟩ : ∃ q : ByteArray, (⟨(List.replicate n (0 : UInt8)).toArray⟩ : ByteArray) = q := ⟨_, rfl⟩
  have hZn : Z.size = n := by rw [← hZ, size_mk, List.length_replicate]
  rw [hZ]
  have B4 := Lib.hid (bel_via hb3 B3.out)
  have T4 := Lib.hid (IsTab.below (show IsTab w3 gt from T3.out) hb3)
  clear hcv4 ho3 hb3 T3 B3 hZ
  have HZN := Lib.hid hZn
  by_cases hbig : 65535 < n
  · clear hZn
    go_wp2_with fail
    refine (FBytes_big 0 Z gt _ (by have := HZN.out; omega) (by have := HZN.out; omega)).mono ?_
    rintro e w5 ⟨rfl, b5⟩
    have B5 := Lib.hid (bel_via b5 B4.out)
    clear b5
    have hi : (65535 : Int) < (n : Int) := by omega
    go_wp2
    go_ret
    exact ⟨by rfl, B5.out⟩
  · clear hZn
    have hp := parse_frame 0 Z (by omega) (by omega) (by have := HZN.out; omega)
    have hl := frame_len 0 Z.data.toList (by rw [Array.length_toList]; have := HZN.out; show Z.size ≤ 65535; omega)
    have hlz : Z.data.toList.length = n := by rw [Array.length_toList]; exact HZN.out
    rw [hlz] at hl
    have hcb := cells_bd (n : Int) (by omega) (by omega)
    go_wp2_with fail
    refine (FBytes_ok 0 Z gt _ (by omega) (by omega) (by have := HZN.out; omega) T4.out).mono ?_
    rintro e w5 ⟨rfl, b5⟩
    obtain ⟨S, hS⟩ : ∃ q : ByteArray, (⟨(frameL 0 Z.data.toList).toArray⟩ : ByteArray) = q := ⟨_, rfl⟩
    have hSz : (S.size : Int) = cellsI (n : Int) * 48 := by rw [← hS, size_mk]; exact hl.1
    rw [hS] at hp ⊢
    have HP := Lib.hid hp
    have B5 := Lib.hid (bel_via b5 B4.out)
    have T5 := Lib.hid (T4.out.below b5)
    obtain ⟨c, hc⟩ : ∃ c, cellsI (n : Int) = c := ⟨_, rfl⟩
    rw [hc] at hcb hSz
    obtain ⟨hc1, hc2, hc3, hc4⟩ := hcb
    have HC := Lib.hid hc
    have g1 : ((S.size : Int) == 48 * c) = true := by simp; omega
    have g2 : (n : Int) ≤ (S.size : Int) - 8 := by omega
    have g3 : (S.size : Int) - 8 - (n : Int) < 48 := by omega
    have hSb : S.size ≤ 1000000 := by omega
    have hi : ¬ (65535 : Int) < (n : Int) := by omega
    clear hp hl hlz hc hS b5 B4 T4 hSz hbig
    go_wp2_with fail
    refine (FParse_any S gt _ hSb T5.out).mono ?_
    rintro e w6 ⟨rfl, b6⟩
    rw [HP.out]
    have B6 := Lib.hid (bel_via b6 B5.out)
    clear b6
    have hzn := HZN.out
    go_wp2_with (go_at_call 30; refine (cells_any (n : Int) _ (by omega)).mono ?_; rintro e w7 ⟨rfl, b7⟩; rw [HC.out])
    go_ret
    exact ⟨by rfl, bel_via b7 (below_alloc B6.out _)⟩
end Go.Proofs.YtjbnihaekgmhlaaDoor
