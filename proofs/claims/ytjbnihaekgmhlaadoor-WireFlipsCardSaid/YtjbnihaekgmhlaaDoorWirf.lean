/- A packed unit with any bits turned within 32 is told, or the same: its walk. -/
import Derived.Test.YtjbnihaekgmhlaaDoorWirq
import Derived.Test.YtjbnihaekgmhlaaDoorTurp
import Derived.Test.YtjbnihaekgmhlaaDoorRowkit
namespace Go.Proofs.YtjbnihaekgmhlaaDoor
open Go.RowKit Pr Go.Proofs.YtjbnihaekgmhlaaDoorW.PrintWords Go.Proofs.YtjbnihaekgmhlaaDoorW.PrintLast Go.Proofs.YtjbnihaekgmhlaaDoorW.PrintMore
attribute [local go_sem] max2_int min2_int max_two min_two max_three min_three max_four min_four   -- for this text's walks alone
set_option linter.unusedVariables false
set_option linter.unusedSimpArgs false

theorem sound_turned (u : Int) (d : ByteArray) (at_ : Int) (m : Nat) (hne : turnN (frameL u d.data.toList) at_ m 32 ≠ frameL u d.data.toList) : soundB ⟨(turnN (frameL u d.data.toList) at_ m 32).toArray⟩ = false := by
  have hn := turn_fits _ at_ m (by unfold frameL; exact seal_fits _) hne
  unfold soundB
  show (_ && fitsB (turnN (frameL u d.data.toList) at_ m 32)) = false
  rw [hn, Bool.and_false]
/-- What turned bits make of a unit's frame. -/
structure TurnF (S T : ByteArray) (Q : Int) (M : Nat) : Prop where
  is : (⟨(turnN S.data.toList Q M 32).toArray⟩ : ByteArray) = T
  size : T.size = S.size
  bad : T ≠ S → parseF T = (0, ⟨#[]⟩, 4)
  unsound : T ≠ S → soundB T = false
theorem turn_unit {a0 a1 a2 a3 a4 : Int} {l5 : List Int} {a6 : Bool} {a7 b S T : ByteArray} {Q : Int} {M : Nat} (h : UnitF a0 a1 a2 a3 a4 l5 a6 a7 b S) (hT : (⟨(turnN S.data.toList Q M 32).toArray⟩ : ByteArray) = T) : TurnF S T Q M := by
  subst hT
  have hS : S.data.toList = frameL 0 b.data.toList := by rw [← h.frame]
  have hb := h.bsize
  have hne : (⟨(turnN S.data.toList Q M 32).toArray⟩ : ByteArray) ≠ S → turnN (frameL 0 b.data.toList) Q M 32 ≠ frameL 0 b.data.toList := by
    intro h1 h2
    apply h1
    rw [hS, h2, ← hS]
  refine ⟨rfl, by rw [size_mk, turnN_len, Array.length_toList]; rfl, fun h1 => ?_, fun h1 => ?_⟩
  · rw [hS]
    exact parse_turned 0 b Q M (by omega) (hne h1)
  · rw [hS]
    exact sound_turned 0 b Q M (hne h1)

set_option maxHeartbeats 16000000 in
set_option maxRecDepth 100000 in
theorem WireFlips_walk (a0 a1 a2 a3 a4 : Int) (A5 : Option Addr) (n5 c5 : Nat) (z5 : List Int) (a6 : Bool) (a7 : ByteArray) (P m : Int) (w : World) (_ : (Lit.int .i64 a0).wf = true) (_ : (Lit.int .i64 a1).wf = true) (_ : (Lit.int .i64 a2).wf = true) (_ : (Lit.int .i64 a3).wf = true) (_ : (Lit.int .i64 a4).wf = true)
    (W5 : Rowkit.IsInts .i64 w A5 n5 c5 z5) (_ : a7.size ≤ maxLen) (hP : (Lit.int .i64 P).wf = true) (hm : (Lit.int .u32 m).wf = true) :
    Calls Tryd.prog 13 #[.agg #[.int .i64 a0, .int .i64 a1, .int .i64 a2, .int .i64 a3, .int .i64 a4, .slice A5 n5 c5, .bool a6, .string a7], .int .i64 P, .int .u32 m] w fun e w' => e = .returned (.bool true) ∧ Below w.heap.size w w' := by
  obtain ⟨hP0, hP1⟩ := bounds_i64 hP
  obtain ⟨hm0, hm1⟩ := bounds_u32 hm
  clear hP hm
  obtain ⟨M, rfl⟩ : ∃ M : Nat, m = (M : Int) := ⟨m.toNat, by omega⟩
  obtain ⟨rfl, h1, h2, h3, h4⟩ := W5
  have HR := Lib.hid h3
  clear h3
  go_enter Tryd.func13, Tryd.ntmps13
  go_wp2_with fail
  refine (awake7_any _).mono ?_
  rintro e w0 ⟨rfl, b0⟩
  obtain ⟨gx, hgx⟩ : ∃ gx, w.heap.size = gx := ⟨_, rfl⟩
  have x0 := blk_below (blk_new w _) b0
  have B0 := Lib.hid (bel_via b0 (below_alloc (Below.refl w.heap.size w) _))
  rw [hgx] at x0 ⊢
  have HG : Hid (w.heap.size ≤ gx) := Lib.hid (by rw [hgx]; exact Nat.le_refl _)
  have X0 := Lib.hid x0
  clear b0 x0
  have c0 := (blk_cell X0.out 0).trans rfl
  have c1 := (blk_cell X0.out 1).trans rfl
  have c2 := (blk_cell X0.out 2).trans rfl
  have c3 := (blk_cell X0.out 3).trans rfl
  have c4 := (blk_cell X0.out 4).trans rfl
  have c5 := (blk_cell X0.out 5).trans rfl
  have c6 := (blk_cell X0.out 6).trans rfl
  have c7 := (blk_cell X0.out 7).trans rfl
  go_wp2_with fail
  refine (polliwoglaw06_Few.calls 4000 a0 a1 a2 a3 a4 A5 _ z5 a6 a7 a0 a1 (clI a2) (clI a3) (clI a4) (fewL z5) a6 (cutB a7 210) _ (Kd.C_below HR.out B0.out) h1 (few_f 4000 a0 a1 a2 a3 a4 z5 a6 a7 (by decide))).mono ?_
  rintro e w1 ⟨v5, rfl, hR1, b1⟩
  obtain ⟨A1, q1, rfl⟩ := Kd.R_slice hR1
  have X1 := Lib.hid (blk_below X0.out b1)
  have B1 := Lib.hid (bel_via b1 B0.out)
  have R1 := Lib.hid (Kd.R_newB hR1 X0.out)
  clear hR1 b1 X0 B0 c0 c1 c2 c3 c4 c5 c6 c7
  have hn := num_few a2 a3 a4 z5
  have hd := cutB_size a7 210
  have hfl := fewL_len z5
  generalize clI a2 = n2 at hn ⊢
  generalize clI a3 = n3 at hn ⊢
  generalize clI a4 = n4 at hn ⊢
  generalize fewL z5 = l at hn hfl R1 ⊢
  generalize cutB a7 210 = d at hd ⊢
  have HN := Lib.hid hn
  clear hn
  have c0 := (blk_cell X1.out 0).trans rfl
  have c1 := (blk_cell X1.out 1).trans rfl
  have c2 := (blk_cell X1.out 2).trans rfl
  have c3 := (blk_cell X1.out 3).trans rfl
  have c4 := (blk_cell X1.out 4).trans rfl
  have c5 := (blk_cell X1.out 5).trans rfl
  have c6 := (blk_cell X1.out 6).trans rfl
  have c7 := (blk_cell X1.out 7).trans rfl
  have z0 := blk_frozen X1.out 0
  have z1 := blk_frozen X1.out 1
  have z2 := blk_frozen X1.out 2
  have z3 := blk_frozen X1.out 3
  have z4 := blk_frozen X1.out 4
  have z5 := blk_frozen X1.out 5
  have z6 := blk_frozen X1.out 6
  have z7 := blk_frozen X1.out 7
  go_wp2_with fail
  have HX := Lib.hid (set8 X1.out (.int .i64 a0) (.int .i64 a1) (.int .i64 n2) (.int .i64 n3) (.int .i64 n4) (.slice A1 l.length q1) (.bool a6) (.string d))
  have HRx := Lib.hid (R_far8 R1.out (.int .i64 a0) (.int .i64 a1) (.int .i64 n2) (.int .i64 n3) (.int .i64 n4) (.slice A1 l.length q1) (.bool a6) (.string d))
  have HBx := Lib.hid (bel8 B1.out HG.out (.int .i64 a0) (.int .i64 a1) (.int .i64 n2) (.int .i64 n3) (.int .i64 n4) (.slice A1 l.length q1) (.bool a6) (.string d))
  clear X1 R1 B1 c0 c1 c2 c3 c4 c5 c6 c7 z0 z1 z2 z3 z4 z5 z6 z7
  generalize World.setCell _ _ _ = w4 at HX HRx HBx ⊢
  refine (New_any _).mono ?_
  rintro e w5 ⟨g, rfl, t5, b5⟩
  obtain ⟨_, hlq, hC⟩ := Kd.R_reads' HRx.out
  have M5 := Lib.hid (MemW.mk (g := g) (blk_below HX.out b5) (Kd.C_below hC b5) t5 (bel_via b5 HBx.out))
  clear t5 hC b5 HX HRx HBx
  have c0 := (blk_cell M5.out.x 0).trans rfl
  have c1 := (blk_cell M5.out.x 1).trans rfl
  have c2 := (blk_cell M5.out.x 2).trans rfl
  have c3 := (blk_cell M5.out.x 3).trans rfl
  have c4 := (blk_cell M5.out.x 4).trans rfl
  have c5 := (blk_cell M5.out.x 5).trans rfl
  have c6 := (blk_cell M5.out.x 6).trans rfl
  have c7 := (blk_cell M5.out.x 7).trans rfl
  go_wp2_with fail
  refine (polliwoglaw06_Own.calls 4000 a0 a1 n2 n3 n4 A1 _ l a6 d a0 a1 n2 n3 n4 l a6 d _ M5.out.c hlq (own_f 4000 a0 a1 n2 n3 n4 l a6 d HN.out (by decide))).mono ?_
  rintro e w6 ⟨v6, rfl, hR6, b6⟩
  obtain ⟨A2, q2, rfl⟩ := Kd.R_slice hR6
  obtain ⟨_, hlq2, hC6⟩ := Kd.R_reads' hR6
  have M6 := Lib.hid (M5.out.grow b6)
  have P6 := Lib.hid hC6
  clear hR6 hC6 b6 M5 c0 c1 c2 c3 c4 c5 c6 c7
  by_cases hz : chkP a0 a1 n2 n3 n4 l a6 d = 0
  · have hu := unit_ok a0 a1 n2 n3 n4 l a6 d HN.out hfl hd hz
    generalize (⟨(bytesP a0 a1 n2 n3 n4 l a6 d).toArray⟩ : ByteArray) = b at hu
    generalize (⟨(frameL 0 (bytesP a0 a1 n2 n3 n4 l a6 d)).toArray⟩ : ByteArray) = S at hu
    have HU := Lib.hid hu
    have hSb := hu.size1
    clear hu hz
    go_wp2_with fail
    refine (Pack_ok 4000 a0 a1 n2 n3 n4 A2 _ l a6 d g b _ P6.out hlq2 HU.out.check HU.out.bytes (by have := HU.out.bsize; omega) M6.out.t).mono ?_
    rintro e w7 ⟨rfl, b7⟩
    rw [HU.out.frame]
    have M7 := Lib.hid (M6.out.grow b7)
    clear b7 M6 P6
    obtain ⟨n, hn⟩ : ∃ n, S.size = n := ⟨_, rfl⟩
    have hSb2 : n ≤ 2000 := by omega
    have hMb : M < 4294967296 := by omega
    go_wp2_with fail
    all_goals
      refine (Flip_any S _ M _ (by omega) (by omega) (by omega) hMb).mono ?_
      rintro e w8 ⟨rfl, b8⟩
      generalize hT : (⟨(turnN S.data.toList _ M 32).toArray⟩ : ByteArray) = T
      have ht := turn_unit HU.out hT
      have hTb : T.size ≤ 2000 := by rw [ht.size]; exact hSb
      have HT := Lib.hid ht
      clear hT ht
      have M8 := Lib.hid (M7.out.grow b8)
      clear b8 M7
      by_cases hTS : T = S
      · subst hTS
        have gT : (T.toList == T.toList) = true := by simp
        go_wp2_with fail
        refine (Open_unit T g 4000 b a0 a1 n2 n3 n4 l a6 d 0 _ (by omega) M8.out.t HU.out.parseF HU.out.parse).mono ?_
        rintro e w11 ⟨v11, rfl, hR11, b11⟩
        obtain ⟨A3, q3, rfl⟩ := Kd.R_slice hR11
        obtain ⟨_, hlq3, hC11⟩ := Kd.R_reads' hR11
        have M11 := Lib.hid (M8.out.grow b11)
        have P11 := Lib.hid hC11
        clear b11 M8 hR11 hC11
        have M12 := Lib.hid (M11.out.alloc (.cells #[.int .i64 a0, .int .i64 a1, .int .u32 n2, .int .u32 n3, .int .u32 n4, .slice A3 l.length q3, .bool a6, .string d] 32))
        have c0 := (blk_cell M12.out.x 0).trans rfl
        have c1 := (blk_cell M12.out.x 1).trans rfl
        have c2 := (blk_cell M12.out.x 2).trans rfl
        have c3 := (blk_cell M12.out.x 3).trans rfl
        have c4 := (blk_cell M12.out.x 4).trans rfl
        have c5 := (blk_cell M12.out.x 5).trans rfl
        have c6 := (blk_cell M12.out.x 6).trans rfl
        have c7 := (blk_cell M12.out.x 7).trans rfl
        go_wp2_with fail
        refine (polliwoglaw06_Same.calls 4000 a0 a1 n2 n3 n4 A3 _ l a6 d a0 a1 n2 n3 n4 A1 _ l a6 d true _ (Kd.C_alloc P11.out _) hlq3 M12.out.c hlq (by rw [same_f 4000 a0 a1 n2 n3 n4 l a6 d a0 a1 n2 n3 n4 l a6 d HN.out (by omega) (by decide)]; simp)).mono ?_
        rintro e w13 ⟨rfl, b13⟩
        have B13 := Lib.hid (bel_via b13 M12.out.b)
        clear b13 M11 M12 P11 c0 c1 c2 c3 c4 c5 c6 c7
        go_wp2
        go_ret
        exact ⟨rfl, B13.out⟩
      · have gT : (T.toList == S.toList) = false := by
          rw [beq_eq_false_iff_ne]
          intro h
          exact hTS (by rw [ByteArray.toList_eq, ByteArray.toList_eq] at h; exact ByteArray.ext (Array.toList_inj.1 h))
        have HB1 := Lib.hid (HT.out.bad hTS)
        have HS1 := Lib.hid (HT.out.unsound hTS)
        go_wp2_with fail
        refine (Open_bad T g 0 ⟨#[]⟩ 4 _ (by omega) M8.out.t HB1.out rfl).mono ?_
        rintro e w9 ⟨rfl, b9⟩
        have M9 := Lib.hid (M8.out.grow b9)
        clear b9 M8
        go_wp2_with fail
        refine (Sound_any T g _ (by omega) (M9.out.alloc _).t).mono ?_
        rintro e w10 ⟨rfl, b10⟩
        rw [HS1.out]
        have X10 := Lib.hid (blk_below (blk_new w9 _) b10)
        have B10 := Lib.hid (bel_via b10 (M9.out.alloc _).b)
        clear b10 M9
        have c0 := (blk_cell X10.out 0).trans rfl
        go_wp2
        go_ret
        exact ⟨rfl, B10.out⟩
  · obtain ⟨c, hc⟩ : ∃ c, chkP a0 a1 n2 n3 n4 l a6 d = c := ⟨_, rfl⟩
    rw [hc] at hz
    have hz1 : (c != 0) = true := by simpa using hz
    have HK := Lib.hid (show pdu_PDU_Check.f 4000 a0 a1 n2 n3 n4 l a6 d = some c by rw [check_f 3996, hc])
    have HRC := Lib.hid (show polliwogref06_Check.f 4000 a0 a1 n2 n3 n4 l a6 d = some c by rw [refCheck_f 4000 a0 a1 n2 n3 n4 l a6 d HN.out (by decide), hc])
    clear hc
    go_wp2_with fail
    refine (Pack_bad 4000 a0 a1 n2 n3 n4 A2 _ l a6 d g c _ P6.out hlq2 HK.out hz1).mono ?_
    rintro e w7 ⟨rfl, b7⟩
    have M7 := Lib.hid (M6.out.grow b7)
    clear b7 M6 P6
    have c0 := (blk_cell M7.out.x 0).trans rfl
    have c1 := (blk_cell M7.out.x 1).trans rfl
    have c2 := (blk_cell M7.out.x 2).trans rfl
    have c3 := (blk_cell M7.out.x 3).trans rfl
    have c4 := (blk_cell M7.out.x 4).trans rfl
    have c5 := (blk_cell M7.out.x 5).trans rfl
    have c6 := (blk_cell M7.out.x 6).trans rfl
    have c7 := (blk_cell M7.out.x 7).trans rfl
    have gc : (c == c) = true := by simp
    go_wp2_with fail
    refine (polliwogref06_Check.calls 4000 a0 a1 n2 n3 n4 A1 _ l a6 d c _ M7.out.c hlq HRC.out).mono ?_
    rintro e w8 ⟨rfl, b8⟩
    have B8 := Lib.hid (bel_via b8 M7.out.b)
    clear b8 M7 c0 c1 c2 c3 c4 c5 c6 c7
    go_wp2
    go_ret
    exact ⟨rfl, B8.out⟩
end Go.Proofs.YtjbnihaekgmhlaaDoor
