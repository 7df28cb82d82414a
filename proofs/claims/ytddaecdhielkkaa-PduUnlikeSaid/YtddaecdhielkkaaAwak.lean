/- polliwoglaw06.awake: its walk. -/
import Derived.Test.YtddaecdhielkkaaParc
namespace Go.Proofs.Ytddaecdhielkkaa
open Go.RowKit Pr Go.Proofs.YtddaecdhielkkaaW.PrintWords
set_option linter.unusedVariables false
set_option linter.unusedSimpArgs false

def c8 : ByteArray := ⟨#[97, 98, 0, 0, 136, 0, 0, 5]⟩
def ab : ByteArray := ⟨#[97, 98]⟩
theorem awake_check : pdu_PDU_Check.f 20 8 0 5 0 0 [] false ab = some 0 := by decide +kernel
theorem awake_bytes : pdu_PDU_Bytes.f 20 8 0 5 0 0 [] false ab = some c8 := by decide +kernel
theorem awk1 : pdu_shapeOf.f 20 8 = some (200, false, true, 0, false, false, false, true) := by kernel_rfl
theorem awk3 : pdu_tail_take.f c8 = some (2281701381, ⟨#[97, 98, 0, 0]⟩) := by decide +kernel
theorem awk5 : Go.bits .and .u32 2281701381 16777215 = 5 := by decide +kernel
theorem awk6 : Go.bits .and .u32 (2281701381 / 536870912) 1 = bitI false := by decide +kernel
theorem awk7 : Go.bits .and .u32 (2281701381 / 16777216) 15 = 8 := by decide +kernel
theorem awk8 : pdu_shape_fixed.f 200 false true 0 false false false true = some 1 := by decide +kernel
theorem awk9 : (⟨#[97, 98, 0, 0]⟩ : ByteArray).extract 0 ((⟨#[97, 98, 0, 0]⟩ : ByteArray).size - 2) = ab := by decide +kernel
theorem awake_parse (w : World) : Calls Try.prog 23 #[.string c8] w fun e w' => e = .returned (.tuple #[.agg #[.int .i64 8, .int .i64 0, .int .u32 5, .int .u32 0, .int .u32 0, .slice none 0 0, .bool false, .string ab], .int .i64 0]) ∧ Below w.heap.size w w' :=
  Parse_c0 20 8 5 false 2 200 true false w c8 ⟨#[97, 98, 0, 0]⟩ ab 2281701381 1 awk1 (by decide) (by decide) (by decide) awk3 awk5 awk6 (by decide) (by decide) (by decide) awk7 awk8 (by decide) (by decide) awk9 awake_check awake_bytes
theorem awake_any (w : World) : Calls Try.prog 21 #[.agg #[.int .i64 8, .int .i64 0, .int .u32 5, .int .u32 0, .int .u32 0, .slice none 0 0, .bool false, .string ⟨#[97, 98]⟩]] w fun e w' => e = .returned (.string ⟨#[97, 98, 0, 0, 136, 0, 0, 5]⟩) ∧ Below w.heap.size w w' :=
  pdu_PDU_Bytes.calls 20 8 0 5 0 0 none 0 [] false ab c8 w (Kd.C_nil _ _) (Nat.le_refl _) awake_bytes

set_option maxHeartbeats 8000000 in
set_option maxRecDepth 1000000 in
theorem awake_walk (w : World) : Calls Try.prog 16 #[] w fun e w' => e = .returned (.bool true) ∧ Below w.heap.size w w' := by
  go_enter Try.func16, Try.ntmps16
  go_wp2_with (first | ((with_reducible refine gate_dst (N := 1) rfl ?_); refine box_event ?hg (N := 1) ?hd (cs := #[.int .i64 0, .int .i64 0, .int .u32 0, .int .u32 0, .int .u32 0, .slice none 0 0, .bool false, .string (⟨#[]⟩ : ByteArray)]) (t := 36) ?hr ?_; (case hd => rfl); (case hg => rfl); (case hr => first | (go_simp; done) | (go_simp; rfl)); intro gp hg_ w1 hbox hb3; have cgp0 := (blk_cell hbox 0).trans rfl; have zgp0 := blk_frozen hbox 0; have cgp1 := (blk_cell hbox 1).trans rfl; have zgp1 := blk_frozen hbox 1; have cgp2 := (blk_cell hbox 2).trans rfl; have zgp2 := blk_frozen hbox 2; have cgp3 := (blk_cell hbox 3).trans rfl; have zgp3 := blk_frozen hbox 3; have cgp4 := (blk_cell hbox 4).trans rfl; have zgp4 := blk_frozen hbox 4; have cgp5 := (blk_cell hbox 5).trans rfl; have zgp5 := blk_frozen hbox 5; have cgp6 := (blk_cell hbox 6).trans rfl; have zgp6 := blk_frozen hbox 6; have cgp7 := (blk_cell hbox 7).trans rfl; have zgp7 := blk_frozen hbox 7; have HGgp := Lib.hid hg_; have HBgp := Lib.hid hb3; have HXgp := Lib.hid hbox; clear hg_ hb3 hbox))
  generalize hw2 : World.setCell _ _ _ = w2
  have U2 : w2.heap[gp]? = some (.cells #[.int .i64 8, .int .i64 0, .int .u32 5, .int .u32 0, .int .u32 0, .slice none 0 0, .bool false, .string (⟨#[97, 98]⟩ : ByteArray)] 36 (0, 0)) := by
    rw [← hw2]
    exact set8 HXgp.out _ _ _ _ _ _ _ _
  have B2 : Below w.heap.size w w2 := by
    rw [← hw2]
    exact bel8 HBgp.out (by rw [HGgp.out]; exact Nat.le_refl _) _ _ _ _ _ _ _ _
  have HU2 := Lib.hid U2
  have HB2 := Lib.hid B2
  clear hw2 U2 B2
  clear cgp0 zgp0 cgp1 zgp1 cgp2 zgp2 cgp3 zgp3 cgp4 zgp4 cgp5 zgp5 cgp6 zgp6 cgp7 zgp7
  refine (awake_parse _).mono ?_
  rintro e w3 ⟨rfl, b3⟩
  have HU3 := Lib.hid (blk_below HU2.out b3)
  have HB3 := Lib.hid (below_via b3 HB2.out)
  clear HU2 HB2 b3
  go_wp2_with ((with_reducible refine gate_dst (N := 2) rfl ?_); refine box_event ?hg (N := 2) ?hd (cs := #[.int .i64 0, .int .i64 0, .int .u32 0, .int .u32 0, .int .u32 0, .slice none 0 0, .bool false, .string (⟨#[]⟩ : ByteArray)]) (t := 36) ?hr ?_; (case hd => rfl); (case hg => rfl); (case hr => first | (go_simp; done) | (go_simp; rfl)); intro gq hg_ w4 hbox hb3; have cgq0 := (blk_cell hbox 0).trans rfl; have zgq0 := blk_frozen hbox 0; have cgq1 := (blk_cell hbox 1).trans rfl; have zgq1 := blk_frozen hbox 1; have cgq2 := (blk_cell hbox 2).trans rfl; have zgq2 := blk_frozen hbox 2; have cgq3 := (blk_cell hbox 3).trans rfl; have zgq3 := blk_frozen hbox 3; have cgq4 := (blk_cell hbox 4).trans rfl; have zgq4 := blk_frozen hbox 4; have cgq5 := (blk_cell hbox 5).trans rfl; have zgq5 := blk_frozen hbox 5; have cgq6 := (blk_cell hbox 6).trans rfl; have zgq6 := blk_frozen hbox 6; have cgq7 := (blk_cell hbox 7).trans rfl; have zgq7 := blk_frozen hbox 7; have n1 : gp ≠ gq := Nat.ne_of_lt (Nat.lt_of_lt_of_eq (blk_lt HU3.out) (Eq.symm hg_)); have n2 := Ne.symm n1; have U4 := blk_below HU3.out hb3; have HU4 := Lib.hid U4; have e0 := (blk_cell U4 0).trans rfl; have e1 := (blk_cell U4 1).trans rfl; have e2 := (blk_cell U4 2).trans rfl; have e3 := (blk_cell U4 3).trans rfl; have e4 := (blk_cell U4 4).trans rfl; have e5 := (blk_cell U4 5).trans rfl; have e6 := (blk_cell U4 6).trans rfl; have e7 := (blk_cell U4 7).trans rfl; clear U4; have HGgq := Lib.hid hg_; have HBgq := Lib.hid hb3; have HXgq := Lib.hid hbox; clear hg_ hb3 hbox)
  generalize hw5 : World.setCell _ _ _ = w5
  have U5 : w5.heap[gq]? = some (.cells #[.int .i64 8, .int .i64 0, .int .u32 5, .int .u32 0, .int .u32 0, .slice none 0 0, .bool false, .string (⟨#[97, 98]⟩ : ByteArray)] 36 (0, 0)) := by
    rw [← hw5]
    exact set8 HXgq.out _ _ _ _ _ _ _ _
  have B5 : Below w.heap.size w w5 := by
    rw [← hw5]
    exact bel8 (below_via HBgq.out HB3.out) (by rw [HGgq.out]; exact HB3.out.size) _ _ _ _ _ _ _ _
  have HU5 := Lib.hid U5
  have HB5 := Lib.hid B5
  clear hw5 U5 B5 n1 n2 e0 e1 e2 e3 e4 e5 e6 e7
  clear cgq0 zgq0 cgq1 zgq1 cgq2 zgq2 cgq3 zgq3 cgq4 zgq4 cgq5 zgq5 cgq6 zgq6 cgq7 zgq7
  refine (awake_any _).mono ?_
  rintro e w6 ⟨rfl, b6⟩
  have U6 := blk_below HU5.out b6
  have cgq0 := (blk_cell U6 0).trans rfl
  have cgq1 := (blk_cell U6 1).trans rfl
  have cgq2 := (blk_cell U6 2).trans rfl
  have cgq3 := (blk_cell U6 3).trans rfl
  have cgq4 := (blk_cell U6 4).trans rfl
  have cgq5 := (blk_cell U6 5).trans rfl
  have cgq6 := (blk_cell U6 6).trans rfl
  have cgq7 := (blk_cell U6 7).trans rfl
  have HB6 := Lib.hid (below_via b6 HB5.out)
  clear HU5 HB5 b6 U6
  go_wp2
  go_ret
  exact ⟨rfl, HB6.out⟩
/-- polliwoglaw06.awake: what it gives. -/
def polliwoglaw06_awake.f : Option Bool := some true
theorem polliwoglaw06_awake.calls (r : Bool) (w : World) (h : polliwoglaw06_awake.f = some r) : Calls Try.prog 16 #[] w fun e w' => e = .returned (.bool r) ∧ Below w.heap.size w w' := by
  obtain rfl := Option.some.inj h
  exact awake_walk w
end Go.Proofs.Ytddaecdhielkkaa
