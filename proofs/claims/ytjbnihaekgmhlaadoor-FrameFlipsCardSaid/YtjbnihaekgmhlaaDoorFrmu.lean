/- Unlike frames have unlike bytes: its walk. -/
import Derived.Test.YtjbnihaekgmhlaaDoorFrma
import Derived.Test.YtjbnihaekgmhlaaDoorRowkit
import Derived.Test.YtjbnihaekgmhlaaDoorFs
namespace Go.Proofs.YtjbnihaekgmhlaaDoor
open Go.RowKit Pr Go.Proofs.YtjbnihaekgmhlaaDoorW.PrintWords
set_option linter.unusedVariables false
set_option linter.unusedSimpArgs false

def cutB (s : ByteArray) (n : Nat) : ByteArray := s.extract 0 (min s.size n)
theorem cut_f (s : ByteArray) (n : Nat) : polliwoglaw02_Cut.f s (n : Int) = some (cutB s n) := by
  unfold polliwoglaw02_Cut.f cutB
  split
  · rw [if_pos (by omega), if_pos (by omega)]
    rw [Nat.min_eq_right (by omega)]
    rfl
  · rw [Nat.min_eq_left (by omega)]
    simp
theorem cutB_size (s : ByteArray) (n : Nat) : (cutB s n).size ≤ n := by
  unfold cutB
  rw [ByteArray.size_extract]
  omega
theorem cut_any (s : ByteArray) (n : Nat) (w : World) : Calls Tryd.prog 28 #[.string s, .int .i64 (n : Int)] w fun e w' => e = .returned (.string (cutB s n)) ∧ ∃ q, w' = w.drewN q :=
  (polliwoglaw02_Cut.calls s (n : Int) (cutB s n) w (cut_f s n)).mono fun _ _ ⟨he, hd⟩ => ⟨he, hd.out⟩
theorem cut120 (s : ByteArray) (w : World) : Calls Tryd.prog 28 #[.string s, .int .i64 120] w fun e w' => e = .returned (.string (cutB s 120)) ∧ ∃ q, w' = w.drewN q := cut_any s 120 w
theorem cut400 (s : ByteArray) (w : World) : Calls Tryd.prog 28 #[.string s, .int .i64 400] w fun e w' => e = .returned (.string (cutB s 400)) ∧ ∃ q, w' = w.drewN q := cut_any s 400 w
theorem cut300 (s : ByteArray) (w : World) : Calls Tryd.prog 28 #[.string s, .int .i64 300] w fun e w' => e = .returned (.string (cutB s 300)) ∧ ∃ q, w' = w.drewN q := cut_any s 300 w
theorem cut200 (s : ByteArray) (w : World) : Calls Tryd.prog 28 #[.string s, .int .i64 200] w fun e w' => e = .returned (.string (cutB s 200)) ∧ ∃ q, w' = w.drewN q := cut_any s 200 w
theorem frame_inj {u v : Int} {a b : ByteArray} (hu0 : 0 ≤ u) (hu1 : u < 256) (hv0 : 0 ≤ v) (hv1 : v < 256) (ha : a.size ≤ 65535) (hb : b.size ≤ 65535) (h : (⟨(frameL u a.data.toList).toArray⟩ : ByteArray) = ⟨(frameL v b.data.toList).toArray⟩) : u = v ∧ a = b := by
  have h1 := parse_frame u a hu0 hu1 ha
  have h2 := parse_frame v b hv0 hv1 hb
  rw [h, h2] at h1
  simp only [Prod.mk.injEq] at h1
  exact ⟨h1.1.symm, h1.2.1.symm⟩
set_option maxHeartbeats 16000000 in
set_option maxRecDepth 100000 in
theorem FrameUnlike_walk (u v : Int) (A B : ByteArray) (w : World) (hu : (Lit.int .u8 u).wf = true) (hv : (Lit.int .u8 v).wf = true) (_ : A.size ≤ maxLen) (_ : B.size ≤ maxLen) :
    Calls Tryd.prog 7 #[.agg #[.int .u8 u, .int .u8 v, .string A, .string B]] w fun e w' => e = .returned (.bool true) ∧ Below w.heap.size w w' := by
  have bu := bounds_u8 hu
  have bv := bounds_u8 hv
  obtain ⟨hu0, hu1⟩ := bu
  obtain ⟨hv0, hv1⟩ := bv
  clear hu hv
  go_enter Tryd.func7, Tryd.ntmps7
  go_wp2_with fail
  refine (awake5_any _).mono ?_
  rintro e w0 ⟨rfl, b0⟩
  have U0 := Lib.hid (blk_below (blk_new w _) b0)
  have B0 := Lib.hid (bel_via b0 (below_alloc (Below.refl _ _) _))
  clear b0
  go_wp2_with fail
  refine (Make_any _).mono ?_
  rintro e w1 ⟨rfl, b1⟩
  have U1 := Lib.hid (blk_below U0.out b1)
  have B1 := Lib.hid (bel_via b1 B0.out)
  clear b1 U0 B0
  go_upto_region 4 with (first | ((with_reducible refine gate_dst (N := 3) rfl ?_); refine box_event ?hg (N := 3) ?hd (cs := tabN 0) (t := 27) ?hr ?_; (case hd => rfl); (case hg => rfl); (case hr => exact run_alloc_tab rfl); intro gt hg_ w2 hbox hb3; have HGgt := Lib.hid hg_; have HBgt := Lib.hid hb3; have HXgt := Lib.hid hbox; clear hg_ hb3 hbox) | (refine wpList_store_row rfl 27 _ _ rfl gt (tabN 256) rfl rfl 27 (tabN 0) HXgt.out (by rw [tab_size, tabN_size]) (by rw [tabN_size, tabN_size]) (tabN_one _) ?_))
  have T3 := Lib.hid (tab_store HXgt.out)
  have B3 : Hid (Below w.heap.size w (w2.setRow gt (tabN 256))) := Lib.hid (below_setRow (below_step B1.out HBgt.out) (by rw [HGgt.out]; exact B1.out.size) _)
  have U3 : Hid ((w2.setRow gt (tabN 256)).heap[w.heap.size]? = _) := Lib.hid ((setRow_other w2 gt w.heap.size (tabN 256) (by have := HGgt.out; have := blk_lt U1.out; omega)).trans (blk_below U1.out HBgt.out))
  generalize w2.setRow gt (tabN 256) = w3 at T3 B3 U3 ⊢
  clear U1 B1
  have c0 := (blk_cell U3.out 0).trans rfl
  have c1 := (blk_cell U3.out 1).trans rfl
  have c2 := (blk_cell U3.out 2).trans rfl
  have c3 := (blk_cell U3.out 3).trans rfl
  go_quiet ((go_at_call 28; exact Calls.quiet_of (cut120 _ _)))
  clear c0 c1 c2 c3
  have ha := cutB_size A 120
  have hb := cutB_size B 120
  generalize cutB A 120 = a at ha ⊢
  generalize cutB B 120 = b at hb ⊢
  go_wp2_with fail
  refine (FBytes_ok u a gt _ hu0 (by omega) (by omega) (show IsTab (w3.drewN nq) gt from T3.out)).mono ?_
  rintro e w4 ⟨rfl, b4⟩
  have T4 := Lib.hid ((show IsTab (w3.drewN nq) gt from T3.out).below b4)
  have B4 := Lib.hid (bel_via b4 (pw_below_drewN B3.out nq))
  clear b4 T3 B3 U3
  obtain ⟨S, hS⟩ : ∃ q : ByteArray, (⟨(frameL u a.data.toList).toArray⟩ : ByteArray) = q := ⟨_, rfl⟩
  rw [hS]
  have HS := Lib.hid hS
  clear hS
  go_wp2_with fail
  refine (FBytes_ok v b gt _ hv0 (by omega) (by omega) T4.out).mono ?_
  rintro e w5 ⟨rfl, b5⟩
  have B5 := Lib.hid (bel_via b5 B4.out)
  clear b5 T4 B4
  obtain ⟨R, hR⟩ : ∃ q : ByteArray, (⟨(frameL v b.data.toList).toArray⟩ : ByteArray) = q := ⟨_, rfl⟩
  rw [hR]
  have HR := Lib.hid hR
  clear hR
  have hinj : S = R → u = v ∧ a = b := fun h => frame_inj hu0 (by omega) hv0 (by omega) (by omega) (by omega) (by rw [HS.out, HR.out, h])
  by_cases huv : u = v
  · subst huv
    by_cases hab : a = b
    · subst hab
      have hSR : (S.toList == R.toList) = true := by rw [← HS.out, ← HR.out]; simp
      have HE := Lib.hid hSR
      have haa : (a.toList == a.toList) = true := by simp
      have huu : (u == u) = true := by simp
      clear hinj
      go_wp2
      go_ret
      exact ⟨by rfl, B5.out⟩
    · have hSR : (S.toList == R.toList) = false := by
        rw [beq_eq_false_iff_ne]
        intro h
        exact hab (hinj (by rw [ByteArray.toList_eq, ByteArray.toList_eq] at h; exact ByteArray.ext (Array.toList_inj.1 h))).2
      have haa : (a.toList == b.toList) = false := by
        rw [beq_eq_false_iff_ne]
        intro h
        exact hab (by rw [ByteArray.toList_eq, ByteArray.toList_eq] at h; exact ByteArray.ext (Array.toList_inj.1 h))
      have huu : (u == u) = true := by simp
      clear hinj hab
      go_wp2
      go_ret
      exact ⟨by rfl, B5.out⟩
  · have hSR : (S.toList == R.toList) = false := by
      rw [beq_eq_false_iff_ne]
      intro h
      exact huv (hinj (by rw [ByteArray.toList_eq, ByteArray.toList_eq] at h; exact ByteArray.ext (Array.toList_inj.1 h))).1
    have huu : (u == v) = false := by simpa using huv
    clear hinj huv
    go_wp2
    go_ret
    exact ⟨by rfl, B5.out⟩
end Go.Proofs.YtjbnihaekgmhlaaDoor
