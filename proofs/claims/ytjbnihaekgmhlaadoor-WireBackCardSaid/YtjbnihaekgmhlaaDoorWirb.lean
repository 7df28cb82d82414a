/- A unit's frame is the document's, and comes back: its walk. -/
import Derived.Test.YtjbnihaekgmhlaaDoorWirq
import Derived.Test.YtjbnihaekgmhlaaDoorRefb
import Derived.Test.YtjbnihaekgmhlaaDoorRowkit
import Derived.Test.YtjbnihaekgmhlaaDoorF38
namespace Go.Proofs.YtjbnihaekgmhlaaDoor
open Go.RowKit Pr Go.Proofs.YtjbnihaekgmhlaaDoorW.PrintWords Go.Proofs.YtjbnihaekgmhlaaDoorW.PrintLast Go.Proofs.YtjbnihaekgmhlaaDoorW.PrintMore
set_option linter.unusedVariables false
set_option linter.unusedSimpArgs false

set_option maxHeartbeats 16000000 in
set_option maxRecDepth 100000 in
theorem WireBack_walk (a0 a1 a2 a3 a4 : Int) (A5 : Option Addr) (n5 c5 : Nat) (z5 : List Int) (a6 : Bool) (a7 : ByteArray) (w : World) (_ : (Lit.int .i64 a0).wf = true) (_ : (Lit.int .i64 a1).wf = true) (_ : (Lit.int .i64 a2).wf = true) (_ : (Lit.int .i64 a3).wf = true) (_ : (Lit.int .i64 a4).wf = true)
    (W5 : Rowkit.IsInts .i64 w A5 n5 c5 z5) (_ : a7.size ≤ maxLen) :
    Calls Tryd.prog 11 #[.agg #[.int .i64 a0, .int .i64 a1, .int .i64 a2, .int .i64 a3, .int .i64 a4, .slice A5 n5 c5, .bool a6, .string a7]] w fun e w' => e = .returned (.bool true) ∧ Below w.heap.size w w' := by
  obtain ⟨rfl, h1, h2, h3, h4⟩ := W5
  have HR := Lib.hid h3
  clear h3
  go_enter Tryd.func11, Tryd.ntmps11
  go_wp2_with fail
  refine (awake7_any _).mono ?_
  rintro e w0 ⟨rfl, b0⟩
  obtain ⟨gx, hgx⟩ : ∃ gx, w.heap.size = gx := ⟨_, rfl⟩
  have x0 := blk_below (blk_new w _) b0
  have B0 := Lib.hid (bel_via b0 (below_alloc (Below.refl w.heap.size w) _))
  rw [hgx] at x0 ⊢
  have HG : Hid (w.heap.size ≤ gx) := Lib.hid (by rw [hgx]; exact Nat.le_refl _)
  have X0 := Lib.hid x0
  clear b0 x0
  have c0 := (blk_cell X0.out 0).trans rfl
  have c1 := (blk_cell X0.out 1).trans rfl
  have c2 := (blk_cell X0.out 2).trans rfl
  have c3 := (blk_cell X0.out 3).trans rfl
  have c4 := (blk_cell X0.out 4).trans rfl
  have c5 := (blk_cell X0.out 5).trans rfl
  have c6 := (blk_cell X0.out 6).trans rfl
  have c7 := (blk_cell X0.out 7).trans rfl
  go_wp2_with fail
  refine (polliwoglaw06_Few.calls 4000 a0 a1 a2 a3 a4 A5 _ z5 a6 a7 a0 a1 (clI a2) (clI a3) (clI a4) (fewL z5) a6 (cutB a7 210) _ (Kd.C_below HR.out B0.out) h1 (few_f 4000 a0 a1 a2 a3 a4 z5 a6 a7 (by decide))).mono ?_
  rintro e w1 ⟨v5, rfl, hR1, b1⟩
  obtain ⟨A1, q1, rfl⟩ := Kd.R_slice hR1
  have X1 := Lib.hid (blk_below X0.out b1)
  have B1 := Lib.hid (bel_via b1 B0.out)
  have R1 := Lib.hid (Kd.R_newB hR1 X0.out)
  clear hR1 b1 X0 B0 c0 c1 c2 c3 c4 c5 c6 c7
  have hn := num_few a2 a3 a4 z5
  have hd := cutB_size a7 210
  have hfl := fewL_len z5
  generalize clI a2 = n2 at hn ⊢
  generalize clI a3 = n3 at hn ⊢
  generalize clI a4 = n4 at hn ⊢
  generalize fewL z5 = l at hn hfl R1 ⊢
  generalize cutB a7 210 = d at hd ⊢
  have HN := Lib.hid hn
  clear hn
  have c0 := (blk_cell X1.out 0).trans rfl
  have c1 := (blk_cell X1.out 1).trans rfl
  have c2 := (blk_cell X1.out 2).trans rfl
  have c3 := (blk_cell X1.out 3).trans rfl
  have c4 := (blk_cell X1.out 4).trans rfl
  have c5 := (blk_cell X1.out 5).trans rfl
  have c6 := (blk_cell X1.out 6).trans rfl
  have c7 := (blk_cell X1.out 7).trans rfl
  have z0 := blk_frozen X1.out 0
  have z1 := blk_frozen X1.out 1
  have z2 := blk_frozen X1.out 2
  have z3 := blk_frozen X1.out 3
  have z4 := blk_frozen X1.out 4
  have z5 := blk_frozen X1.out 5
  have z6 := blk_frozen X1.out 6
  have z7 := blk_frozen X1.out 7
  go_wp2_with fail
  have HX := Lib.hid (set8 X1.out (.int .i64 a0) (.int .i64 a1) (.int .i64 n2) (.int .i64 n3) (.int .i64 n4) (.slice A1 l.length q1) (.bool a6) (.string d))
  have HRx := Lib.hid (R_far8 R1.out (.int .i64 a0) (.int .i64 a1) (.int .i64 n2) (.int .i64 n3) (.int .i64 n4) (.slice A1 l.length q1) (.bool a6) (.string d))
  have HBx := Lib.hid (bel8 B1.out HG.out (.int .i64 a0) (.int .i64 a1) (.int .i64 n2) (.int .i64 n3) (.int .i64 n4) (.slice A1 l.length q1) (.bool a6) (.string d))
  clear X1 R1 B1 c0 c1 c2 c3 c4 c5 c6 c7 z0 z1 z2 z3 z4 z5 z6 z7
  generalize World.setCell _ _ _ = w4 at HX HRx HBx ⊢
  refine (New_any _).mono ?_
  rintro e w5 ⟨g, rfl, t5, b5⟩
  obtain ⟨_, hlq, hC⟩ := Kd.R_reads' HRx.out
  have M5 := Lib.hid (MemW.mk (g := g) (blk_below HX.out b5) (Kd.C_below hC b5) t5 (bel_via b5 HBx.out))
  clear t5 hC b5 HX HRx HBx
  have c0 := (blk_cell M5.out.x 0).trans rfl
  have c1 := (blk_cell M5.out.x 1).trans rfl
  have c2 := (blk_cell M5.out.x 2).trans rfl
  have c3 := (blk_cell M5.out.x 3).trans rfl
  have c4 := (blk_cell M5.out.x 4).trans rfl
  have c5 := (blk_cell M5.out.x 5).trans rfl
  have c6 := (blk_cell M5.out.x 6).trans rfl
  have c7 := (blk_cell M5.out.x 7).trans rfl
  go_wp2_with fail
  refine (polliwoglaw06_Own.calls 4000 a0 a1 n2 n3 n4 A1 _ l a6 d a0 a1 n2 n3 n4 l a6 d _ M5.out.c hlq (own_f 4000 a0 a1 n2 n3 n4 l a6 d HN.out (by decide))).mono ?_
  rintro e w6 ⟨v6, rfl, hR6, b6⟩
  obtain ⟨A2, q2, rfl⟩ := Kd.R_slice hR6
  obtain ⟨_, hlq2, hC6⟩ := Kd.R_reads' hR6
  have M6 := Lib.hid (M5.out.grow b6)
  have P6 := Lib.hid hC6
  clear hR6 hC6 b6 M5 c0 c1 c2 c3 c4 c5 c6 c7
  by_cases hz : chkP a0 a1 n2 n3 n4 l a6 d = 0
  · have hu := unit_ok a0 a1 n2 n3 n4 l a6 d HN.out hfl hd hz
    generalize (⟨(bytesP a0 a1 n2 n3 n4 l a6 d).toArray⟩ : ByteArray) = b at hu
    generalize (⟨(frameL 0 (bytesP a0 a1 n2 n3 n4 l a6 d)).toArray⟩ : ByteArray) = S at hu
    have HU := Lib.hid hu
    have hSb := hu.size1
    have hS48 := hu.cells
    have hrp : polliwogref07_Pack.f 4000 a0 a1 n2 n3 n4 l a6 d = some S := by
      have h5 : polliwogref05_Bytes.f 4000 0 b = some S := by
        unfold polliwogref05_Bytes.f
        rw [if_pos ⟨by decide, by decide, by have := hu.bsize; omega⟩, hu.frame]
      have h6 : polliwogref06_Bytes.f 4000 a0 a1 n2 n3 n4 l a6 d = some b := by
        rw [refBytes_f 4000 a0 a1 n2 n3 n4 l a6 d HN.out (by decide), if_pos hz]
        have := hu.bytes
        rw [bytes_f 4000 a0 a1 n2 n3 n4 l a6 d (by omega) (by omega) (by decide), if_pos hz] at this
        exact this
      unfold polliwogref07_Pack.f
      rw [hu.refc]
      simp only [Option.bind_some, if_true, h6, h5]
    have HRP := Lib.hid hrp
    clear hu hrp hz
    go_wp2_with fail
    refine (Pack_ok 4000 a0 a1 n2 n3 n4 A2 _ l a6 d g b _ (Kd.C_alloc P6.out _) hlq2 HU.out.check HU.out.bytes (by have := HU.out.bsize; omega) (M6.out.alloc _).t).mono ?_
    rintro e w7 ⟨rfl, b7⟩
    rw [HU.out.frame]
    have M7 := Lib.hid ((M6.out.alloc _).grow b7)
    have X7 := Lib.hid (blk_below (blk_new w6 _) b7)
    have P7 := Lib.hid (Kd.C_below (Kd.C_alloc P6.out _) b7)
    clear b7 M6 P6
    generalize w6.heap.size = gp at X7 ⊢
    have c0 := (blk_cell M7.out.x 0).trans rfl
    have c1 := (blk_cell M7.out.x 1).trans rfl
    have c2 := (blk_cell M7.out.x 2).trans rfl
    have c3 := (blk_cell M7.out.x 3).trans rfl
    have c4 := (blk_cell M7.out.x 4).trans rfl
    have c5 := (blk_cell M7.out.x 5).trans rfl
    have c6 := (blk_cell M7.out.x 6).trans rfl
    have c7 := (blk_cell M7.out.x 7).trans rfl
    go_wp2_with fail
    refine (polliwogref06_Check.calls 4000 a0 a1 n2 n3 n4 A1 _ l a6 d 0 _ M7.out.c hlq HU.out.refc).mono ?_
    rintro e w8 ⟨rfl, b8⟩
    have M8 := Lib.hid (M7.out.grow b8)
    have X8 := Lib.hid (blk_below X7.out b8)
    have P8 := Lib.hid (Kd.C_below P7.out b8)
    clear b8 M7 X7 P7 c0 c1 c2 c3 c4 c5 c6 c7
    have c0 := (blk_cell M8.out.x 0).trans rfl
    have c1 := (blk_cell M8.out.x 1).trans rfl
    have c2 := (blk_cell M8.out.x 2).trans rfl
    have c3 := (blk_cell M8.out.x 3).trans rfl
    have c4 := (blk_cell M8.out.x 4).trans rfl
    have c5 := (blk_cell M8.out.x 5).trans rfl
    have c6 := (blk_cell M8.out.x 6).trans rfl
    have c7 := (blk_cell M8.out.x 7).trans rfl
    go_wp2_with fail
    refine (polliwogref07_Pack.calls 4000 a0 a1 n2 n3 n4 A1 _ l a6 d S _ M8.out.c hlq HRP.out).mono ?_
    rintro e w9 ⟨rfl, b9⟩
    have M9 := Lib.hid (M8.out.grow b9)
    have X9 := Lib.hid (blk_below X8.out b9)
    have P9 := Lib.hid (Kd.C_below P8.out b9)
    clear b9 M8 X8 P8 c0 c1 c2 c3 c4 c5 c6 c7
    have gS : (S.toList == S.toList) = true := by simp
    have d0 := (blk_cell X9.out 0).trans rfl
    have d1 := (blk_cell X9.out 1).trans rfl
    have d2 := (blk_cell X9.out 2).trans rfl
    have d3 := (blk_cell X9.out 3).trans rfl
    have d4 := (blk_cell X9.out 4).trans rfl
    have d5 := (blk_cell X9.out 5).trans rfl
    have d6 := (blk_cell X9.out 6).trans rfl
    have d7 := (blk_cell X9.out 7).trans rfl
    go_wp2_with fail
    refine (wire_Size.calls 4000 a0 a1 n2 n3 n4 A2 _ l a6 d (S.size : Int) _ P9.out hlq2 HU.out.wsize).mono ?_
    rintro e w10 ⟨rfl, b10⟩
    have M10 := Lib.hid (M9.out.grow b10)
    clear b10 M9 X9 P9 d0 d1 d2 d3 d4 d5 d6 d7
    go_wp2_with fail
    refine (Open_unit S g 4000 b a0 a1 n2 n3 n4 l a6 d 0 _ (by omega) M10.out.t HU.out.parseF HU.out.parse).mono ?_
    rintro e w11 ⟨v11, rfl, hR11, b11⟩
    obtain ⟨A3, q3, rfl⟩ := Kd.R_slice hR11
    obtain ⟨_, hlq3, hC11⟩ := Kd.R_reads' hR11
    have M11 := Lib.hid (M10.out.grow b11)
    have P11 := Lib.hid hC11
    clear b11 M10 hR11 hC11
    have M12 := Lib.hid (M11.out.alloc (.cells #[.int .i64 a0, .int .i64 a1, .int .u32 n2, .int .u32 n3, .int .u32 n4, .slice A3 l.length q3, .bool a6, .string d] 32))
    have c0 := (blk_cell M12.out.x 0).trans rfl
    have c1 := (blk_cell M12.out.x 1).trans rfl
    have c2 := (blk_cell M12.out.x 2).trans rfl
    have c3 := (blk_cell M12.out.x 3).trans rfl
    have c4 := (blk_cell M12.out.x 4).trans rfl
    have c5 := (blk_cell M12.out.x 5).trans rfl
    have c6 := (blk_cell M12.out.x 6).trans rfl
    have c7 := (blk_cell M12.out.x 7).trans rfl
    go_wp2_with fail
    refine (polliwoglaw06_Same.calls 4000 a0 a1 n2 n3 n4 A3 _ l a6 d a0 a1 n2 n3 n4 A1 _ l a6 d true _ (Kd.C_alloc P11.out _) hlq3 M12.out.c hlq (by rw [same_f 4000 a0 a1 n2 n3 n4 l a6 d a0 a1 n2 n3 n4 l a6 d HN.out (by omega) (by decide)]; simp)).mono ?_
    rintro e w13 ⟨rfl, b13⟩
    have M13 := Lib.hid (M12.out.grow b13)
    clear b13 M11 M12 P11 c0 c1 c2 c3 c4 c5 c6 c7
    go_wp2_with fail
    refine (Sound_any S g _ (by omega) M13.out.t).mono ?_
    rintro e w14 ⟨rfl, b14⟩
    rw [HU.out.sound]
    have B14 := Lib.hid (bel_via b14 M13.out.b)
    clear b14
    have h48 : ((S.size : Int) % 48 == 0) = true := by simp; omega
    go_wp2
    go_ret
    exact ⟨rfl, B14.out⟩
  · obtain ⟨c, hc⟩ : ∃ c, chkP a0 a1 n2 n3 n4 l a6 d = c := ⟨_, rfl⟩
    rw [hc] at hz
    have hz1 : (c != 0) = true := by simpa using hz
    have HK := Lib.hid (show pdu_PDU_Check.f 4000 a0 a1 n2 n3 n4 l a6 d = some c by rw [check_f 3996, hc])
    have HRC := Lib.hid (show polliwogref06_Check.f 4000 a0 a1 n2 n3 n4 l a6 d = some c by rw [refCheck_f 4000 a0 a1 n2 n3 n4 l a6 d HN.out (by decide), hc])
    have HRP := Lib.hid (show polliwogref07_Pack.f 4000 a0 a1 n2 n3 n4 l a6 d = some ⟨#[]⟩ by unfold polliwogref07_Pack.f; rw [HRC.out]; simp only [Option.bind_some]; rw [if_neg hz])
    have HSZ := Lib.hid (show wire_Size.f 4000 a0 a1 n2 n3 n4 l a6 d = some 0 by rw [size_f 4000 a0 a1 n2 n3 n4 l a6 d hfl hd (by decide), hc, if_neg hz])
    clear hc
    go_wp2_with fail
    refine (Pack_bad 4000 a0 a1 n2 n3 n4 A2 _ l a6 d g c _ (Kd.C_alloc P6.out _) hlq2 HK.out hz1).mono ?_
    rintro e w7 ⟨rfl, b7⟩
    have M7 := Lib.hid ((M6.out.alloc _).grow b7)
    have X7 := Lib.hid (blk_below (blk_new w6 _) b7)
    have P7 := Lib.hid (Kd.C_below (Kd.C_alloc P6.out _) b7)
    clear b7 M6 P6
    generalize w6.heap.size = gp at X7 ⊢
    have c0 := (blk_cell M7.out.x 0).trans rfl
    have c1 := (blk_cell M7.out.x 1).trans rfl
    have c2 := (blk_cell M7.out.x 2).trans rfl
    have c3 := (blk_cell M7.out.x 3).trans rfl
    have c4 := (blk_cell M7.out.x 4).trans rfl
    have c5 := (blk_cell M7.out.x 5).trans rfl
    have c6 := (blk_cell M7.out.x 6).trans rfl
    have c7 := (blk_cell M7.out.x 7).trans rfl
    have gc : (c == c) = true := by simp
    go_wp2_with fail
    refine (polliwogref06_Check.calls 4000 a0 a1 n2 n3 n4 A1 _ l a6 d c _ M7.out.c hlq HRC.out).mono ?_
    rintro e w8 ⟨rfl, b8⟩
    have M8 := Lib.hid (M7.out.grow b8)
    have X8 := Lib.hid (blk_below X7.out b8)
    have P8 := Lib.hid (Kd.C_below P7.out b8)
    clear b8 M7 X7 P7 c0 c1 c2 c3 c4 c5 c6 c7
    have c0 := (blk_cell M8.out.x 0).trans rfl
    have c1 := (blk_cell M8.out.x 1).trans rfl
    have c2 := (blk_cell M8.out.x 2).trans rfl
    have c3 := (blk_cell M8.out.x 3).trans rfl
    have c4 := (blk_cell M8.out.x 4).trans rfl
    have c5 := (blk_cell M8.out.x 5).trans rfl
    have c6 := (blk_cell M8.out.x 6).trans rfl
    have c7 := (blk_cell M8.out.x 7).trans rfl
    go_wp2_with fail
    refine (polliwogref07_Pack.calls 4000 a0 a1 n2 n3 n4 A1 _ l a6 d ⟨#[]⟩ _ M8.out.c hlq HRP.out).mono ?_
    rintro e w9 ⟨rfl, b9⟩
    have M9 := Lib.hid (M8.out.grow b9)
    have X9 := Lib.hid (blk_below X8.out b9)
    have P9 := Lib.hid (Kd.C_below P8.out b9)
    clear b9 M8 X8 P8 c0 c1 c2 c3 c4 c5 c6 c7
    have d0 := (blk_cell X9.out 0).trans rfl
    have d1 := (blk_cell X9.out 1).trans rfl
    have d2 := (blk_cell X9.out 2).trans rfl
    have d3 := (blk_cell X9.out 3).trans rfl
    have d4 := (blk_cell X9.out 4).trans rfl
    have d5 := (blk_cell X9.out 5).trans rfl
    have d6 := (blk_cell X9.out 6).trans rfl
    have d7 := (blk_cell X9.out 7).trans rfl
    go_wp2_with fail
    refine (wire_Size.calls 4000 a0 a1 n2 n3 n4 A2 _ l a6 d 0 _ P9.out hlq2 HSZ.out).mono ?_
    rintro e w10 ⟨rfl, b10⟩
    have B10 := Lib.hid (bel_via b10 M9.out.b)
    clear b10 M9 X9 P9 d0 d1 d2 d3 d4 d5 d6 d7
    go_wp2
    go_ret
    exact ⟨rfl, B10.out⟩
end Go.Proofs.YtjbnihaekgmhlaaDoor
