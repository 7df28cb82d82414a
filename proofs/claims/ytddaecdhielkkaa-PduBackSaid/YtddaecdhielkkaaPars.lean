/- pdu.Parse, of a unit's own bytes: its walk. -/
import Derived.Test.YtddaecdhielkkaaTold
import Derived.StillTailTactics
import Derived.Test.YtddaecdhielkkaaPduq
import Derived.Test.YtddaecdhielkkaaF54
import Derived.Test.YtddaecdhielkkaaF55
namespace Go.Proofs.Ytddaecdhielkkaa
open Go.RowKit Pr Go.Proofs.YtddaecdhielkkaaW.PrintWords
set_option linter.unusedVariables false
set_option linter.unusedSimpArgs false
attribute [local go_sem ↓] Go.wp_at_zero Go.wp_at_succ

theorem two_new (w : World) (X Y : Obj) : ((w.alloc X).alloc Y).heap[w.heap.size + 1]? = some Y := by
  have := blk_new (w.alloc X) Y
  rwa [show (w.alloc X).heap.size = w.heap.size + 1 by simp] at this
theorem set8 {w : World} {g : Nat} {t : TypeId} {v0 v1 v2 v3 v4 v5 v6 v7 : Value} (h : w.heap[g]? = some (.cells #[v0, v1, v2, v3, v4, v5, v6, v7] t (0, 0))) (u0 u1 u2 u3 u4 u5 u6 u7 : Value) :
    ((((((((w.setCell ⟨g, 0, none⟩ u0).setCell ⟨g, 1, none⟩ u1).setCell ⟨g, 2, none⟩ u2).setCell ⟨g, 3, none⟩ u3).setCell ⟨g, 4, none⟩ u4).setCell ⟨g, 5, none⟩ u5).setCell ⟨g, 6, none⟩ u6).setCell ⟨g, 7, none⟩ u7).heap[g]? = some (.cells #[u0, u1, u2, u3, u4, u5, u6, u7] t (0, 0)) := by
  have := blk_set (blk_set (blk_set (blk_set (blk_set (blk_set (blk_set (blk_set h 0 u0) 1 u1) 2 u2) 3 u3) 4 u4) 5 u5) 6 u6) 7 u7
  simpa using this
theorem far8 {w : World} {g : Nat} {k : Nat} {cs : Array Value} {t : TypeId} (h : w.heap[k]? = some (.cells cs t (0, 0))) (hne : k ≠ g) (u0 u1 u2 u3 u4 u5 u6 u7 : Value) :
    ((((((((w.setCell ⟨g, 0, none⟩ u0).setCell ⟨g, 1, none⟩ u1).setCell ⟨g, 2, none⟩ u2).setCell ⟨g, 3, none⟩ u3).setCell ⟨g, 4, none⟩ u4).setCell ⟨g, 5, none⟩ u5).setCell ⟨g, 6, none⟩ u6).setCell ⟨g, 7, none⟩ u7).heap[k]? = some (.cells cs t (0, 0)) :=
  blk_far (p := ⟨g, 7, none⟩) (blk_far (p := ⟨g, 6, none⟩) (blk_far (p := ⟨g, 5, none⟩) (blk_far (p := ⟨g, 4, none⟩) (blk_far (p := ⟨g, 3, none⟩) (blk_far (p := ⟨g, 2, none⟩) (blk_far (p := ⟨g, 1, none⟩) (blk_far (p := ⟨g, 0, none⟩) h hne u0) hne u1) hne u2) hne u3) hne u4) hne u5) hne u6) hne u7
theorem bel8 {a w : World} {B g : Nat} (h : Below B a w) (hg : B ≤ g) (u0 u1 u2 u3 u4 u5 u6 u7 : Value) :
    Below B a ((((((((w.setCell ⟨g, 0, none⟩ u0).setCell ⟨g, 1, none⟩ u1).setCell ⟨g, 2, none⟩ u2).setCell ⟨g, 3, none⟩ u3).setCell ⟨g, 4, none⟩ u4).setCell ⟨g, 5, none⟩ u5).setCell ⟨g, 6, none⟩ u6).setCell ⟨g, 7, none⟩ u7) :=
  (((((((h.setCell (p := ⟨g, 0, none⟩) hg u0).setCell (p := ⟨g, 1, none⟩) hg u1).setCell (p := ⟨g, 2, none⟩) hg u2).setCell (p := ⟨g, 3, none⟩) hg u3).setCell (p := ⟨g, 4, none⟩) hg u4).setCell (p := ⟨g, 5, none⟩) hg u5).setCell (p := ⟨g, 6, none⟩) hg u6).setCell (p := ⟨g, 7, none⟩) hg u7
theorem low27 (x : Int) (w : World) : Calls Try.prog 27 #[.int .u32 x] w fun e w' => e = .returned (.int .u32 (Go.bits .and .u32 x 16777215)) ∧ ∃ n, w' = w.drewN n :=
  (seq_Num_Low.calls x _ w rfl).mono fun _ _ ⟨he, hd⟩ => ⟨he, hd.out⟩
theorem bitI_one (b : Bool) : (bitI b == 1) = b := by cases b <;> rfl

/-- What lies in memory while pdu.Parse runs: the result, the rest of the bytes, the unit, its kind's shape. -/
structure Mem (w W : World) (gq gt gp : Nat) (t : ByteArray) (cs : Array Value) : Prop where
  res : W.heap[gq]? = some (.cells #[.int .i64 0, .int .i64 0, .int .u32 0, .int .u32 0, .int .u32 0, .slice none 0 0, .bool false, .string (⟨#[]⟩ : ByteArray)] 36 (0, 0))
  tail : W.heap[gt]? = some (.cells #[.string t] 98 (0, 0))
  unit : W.heap[gp]? = some (.cells cs 36 (0, 0))
  below : Below w.heap.size w W
  q0 : w.heap.size ≤ gq
  t0 : w.heap.size ≤ gt
  p0 : w.heap.size ≤ gp
  qt : gq ≠ gt
  qp : gq ≠ gp
  tp : gt ≠ gp
theorem Mem.grow {w W W1 : World} {gq gt gp : Nat} {t : ByteArray} {cs : Array Value} (h : Mem w W gq gt gp t cs) (hb : Below W.heap.size W W1) : Mem w W1 gq gt gp t cs :=
  ⟨blk_below h.res hb, blk_below h.tail hb, blk_below h.unit hb, below_via hb h.below, h.q0, h.t0, h.p0, h.qt, h.qp, h.tp⟩

set_option maxHeartbeats 8000000 in
set_option maxRecDepth 1000000 in
theorem Parse_c0 (K : Nat) (kind n : Int) (self : Bool) (pad : Nat) (dt : Int) (nn sf : Bool) (w : World) (s t d : ByteArray) (L F : Int)
    (hsh : pdu_shapeOf.f K kind = some (dt, false, nn, 0, false, false, sf, true)) (hs : s.size ≤ 1000000) (h4 : s.size % 4 = 0) (h0 : 0 < s.size) (htk : pdu_tail_take.f s = some (L, t))
    (hn : Go.bits .and .u32 L 16777215 = n) (hself : Go.bits .and .u32 (L / 536870912) 1 = bitI self) (hpad : L / 1073741824 = (pad : Int)) (hk0 : 0 ≤ kind) (hk1 : kind < 16)
    (hk : Go.bits .and .u32 (L / 16777216) 15 = kind) (hfix : pdu_shape_fixed.f dt false nn 0 false false sf true = some 1) (hpt : pad ≤ t.size) (hts : t.size ≤ 1000000) (hd : t.extract 0 (t.size - pad) = d)
    (hc : pdu_PDU_Check.f K kind 0 n 0 0 [] self d = some 0) (hb : pdu_PDU_Bytes.f K kind 0 n 0 0 [] self d = some s) :
    Calls Try.prog 23 #[.string s] w fun e w' => e = .returned (.tuple #[.agg #[.int .i64 kind, .int .i64 0, .int .u32 n, .int .u32 0, .int .u32 0, .slice none 0 0, .bool self, .string d], .int .i64 0]) ∧ Below w.heap.size w w' := by
  have HS := Lib.hid hsh
  have HT := Lib.hid htk
  have HF := Lib.hid hfix
  have HD := Lib.hid hd
  have HC := Lib.hid hc
  have HBY := Lib.hid hb
  have hne : s.toList.isEmpty = false := empty_no s h0
  have hq4 : ((s.size : Int) % 4 != 0) = false := by simp; omega
  have hb1 := bitI_one self
  have hs4 : ¬ ((s.size : Int) < 4) := by omega
  have HH4 := Lib.hid h4
  clear hsh htk h4 hfix hd hc hb
  go_enter Try.func23, Try.ntmps23
  go_wp2_with (first | ((with_reducible refine gate_dst (N := 2) rfl ?_); refine box_event ?hg (N := 2) ?hd (cs := #[.int .i64 0, .int .i64 0, .int .u32 0, .int .u32 0, .int .u32 0, .slice none 0 0, .bool false, .string (⟨#[]⟩ : ByteArray)]) (t := 36) ?hr ?_; (case hd => rfl); (case hg => rfl); (case hr => first | (go_simp; done) | (go_simp; rfl)); intro gq hg_ w01 hbox hb3; have cgq0 := (blk_cell hbox 0).trans rfl; have zgq0 := blk_frozen hbox 0; have cgq1 := (blk_cell hbox 1).trans rfl; have zgq1 := blk_frozen hbox 1; have cgq2 := (blk_cell hbox 2).trans rfl; have zgq2 := blk_frozen hbox 2; have cgq3 := (blk_cell hbox 3).trans rfl; have zgq3 := blk_frozen hbox 3; have cgq4 := (blk_cell hbox 4).trans rfl; have zgq4 := blk_frozen hbox 4; have cgq5 := (blk_cell hbox 5).trans rfl; have zgq5 := blk_frozen hbox 5; have cgq6 := (blk_cell hbox 6).trans rfl; have zgq6 := blk_frozen hbox 6; have cgq7 := (blk_cell hbox 7).trans rfl; have zgq7 := blk_frozen hbox 7; have HGgq := Lib.hid hg_; have HBgq := Lib.hid hb3; have HXgq := Lib.hid hbox; clear hg_ hb3 hbox) | ((with_reducible refine gate_dst (N := 22) rfl ?_); refine box_event ?hg (N := 22) ?hd (cs := #[.string s]) (t := 98) ?hr ?_; (case hd => rfl); (case hg => rfl); (case hr => first | (go_simp; done) | (go_simp; rfl)); intro gt hg_ w02 hbox hb3; have cgt0 := (blk_cell hbox 0).trans rfl; have zgt0 := blk_frozen hbox 0; have HGgt := Lib.hid hg_; have HBgt := Lib.hid hb3; have HXgt := Lib.hid hbox; clear hg_ hb3 hbox))
  have M0 : Mem w w02 gq gt gt s #[.string s] → True := fun _ => trivial
  have q1 : w.heap.size ≤ gq := by rw [HGgq.out]; exact Nat.le_refl _
  have q2 : w.heap.size ≤ gt := by rw [HGgt.out]; exact HBgq.out.size
  have q3 : gq ≠ gt := by rw [HGgt.out]; exact Nat.ne_of_lt (blk_lt HXgq.out)
  have Q1 := Lib.hid q1
  have Q2 := Lib.hid q2
  have Q3 := Lib.hid q3
  have B02 : Hid (Below w.heap.size w w02) := Lib.hid (below_via HBgt.out HBgq.out)
  have R02 := Lib.hid (blk_below HXgq.out HBgt.out)
  clear q1 q2 q3 M0
  refine (pdu_tail_take.calls gt s L t w _ ⟨HXgt.out, Q2.out⟩ B02.out HT.out).mono ?_
  rintro e w1 ⟨rfl, hI, hb, hkb⟩
  have R1 := Lib.hid ((hkb.2 gq (blk_lt R02.out) Q3.out (by simp)).trans R02.out)
  have HI := Lib.hid hI
  have B1 := Lib.hid hb
  clear hI hb hkb cgq0 cgq1 cgq2 cgq3 cgq4 cgq5 cgq6 cgq7 zgq0 zgq1 zgq2 zgq3 zgq4 zgq5 zgq6 zgq7 cgt0 zgt0
  go_wp2_with fail
  refine (low27 L _).mono ?_
  rintro e w2 ⟨rfl, q, rfl⟩
  rw [hn]
  go_wp2_with (first | ((with_reducible refine gate_dst (N := 6) rfl ?_); refine box_event ?hg (N := 6) ?hd (cs := #[.int .i64 0, .int .i64 0, .int .u32 0, .int .u32 0, .int .u32 0, .slice none 0 0, .bool false, .string (⟨#[]⟩ : ByteArray)]) (t := 36) ?hr ?_; (case hd => rfl); (case hg => rfl); (case hr => first | (go_simp; done) | (go_simp; rfl)); intro gp hg_ w3 hbox hb3; have cgp0 := (blk_cell hbox 0).trans rfl; have zgp0 := blk_frozen hbox 0; have cgp1 := (blk_cell hbox 1).trans rfl; have zgp1 := blk_frozen hbox 1; have cgp2 := (blk_cell hbox 2).trans rfl; have zgp2 := blk_frozen hbox 2; have cgp3 := (blk_cell hbox 3).trans rfl; have zgp3 := blk_frozen hbox 3; have cgp4 := (blk_cell hbox 4).trans rfl; have zgp4 := blk_frozen hbox 4; have cgp5 := (blk_cell hbox 5).trans rfl; have zgp5 := blk_frozen hbox 5; have cgp6 := (blk_cell hbox 6).trans rfl; have zgp6 := blk_frozen hbox 6; have cgp7 := (blk_cell hbox 7).trans rfl; have zgp7 := blk_frozen hbox 7; have HGgp := Lib.hid hg_; have HBgp := Lib.hid hb3; have HXgp := Lib.hid hbox; clear hg_ hb3 hbox))
  generalize hw4 : World.setCell _ _ _ = w4
  have M4 : Mem w w4 gq gt gp t #[.int .i64 kind, .int .i64 0, .int .u32 n, .int .u32 0, .int .u32 0, .slice none 0 0, .bool self, .string ⟨#[]⟩] := by
    have e1 : gp = w1.heap.size := HGgp.out
    have l1 := blk_lt R1.out
    have l2 := blk_lt HI.out.1
    have p0 : w.heap.size ≤ gp := by rw [e1]; exact B1.out.size
    have r3 := blk_below (w := w1.drewN q) R1.out HBgp.out
    have t3 := blk_below (w := w1.drewN q) HI.out.1 HBgp.out
    have b3 : Below w.heap.size w w3 := below_via HBgp.out (pw_below_drewN B1.out q)
    rw [← hw4]
    exact ⟨far8 r3 (by omega) _ _ _ _ _ _ _ _, far8 t3 (by omega) _ _ _ _ _ _ _ _, set8 HXgp.out _ _ _ _ _ _ _ _, bel8 b3 p0 _ _ _ _ _ _ _ _, Q1.out, Q2.out, p0, Q3.out, by omega, by omega⟩
  have MM := Lib.hid M4
  clear hw4 M4 R1 HI B1
  clear cgp0 cgp1 cgp2 cgp3 cgp4 cgp5 cgp6 cgp7 zgp0 zgp1 zgp2 zgp3 zgp4 zgp5 zgp6 zgp7
  refine (pdu_shapeOf.calls K kind dt false nn 0 false false sf true _ HS.out).mono ?_
  rintro e w5 ⟨rfl, b5⟩
  have MM5 := Lib.hid (MM.out.grow b5)
  clear MM b5
  go_wp2_with (first | ((with_reducible refine gate_dst (N := 7) rfl ?_); refine box_event ?hg (N := 7) ?hd (cs := #[.int .i64 0, .bool false, .bool false, .int .i64 0, .bool false, .bool false, .bool false, .bool false]) (t := 78) ?hr ?_; (case hd => rfl); (case hg => rfl); (case hr => first | (go_simp; done) | (go_simp; rfl)); intro gh hg_ w6 hbox hb3; have cgh0 := (blk_cell hbox 0).trans rfl; have zgh0 := blk_frozen hbox 0; have cgh1 := (blk_cell hbox 1).trans rfl; have zgh1 := blk_frozen hbox 1; have cgh2 := (blk_cell hbox 2).trans rfl; have zgh2 := blk_frozen hbox 2; have cgh3 := (blk_cell hbox 3).trans rfl; have zgh3 := blk_frozen hbox 3; have cgh4 := (blk_cell hbox 4).trans rfl; have zgh4 := blk_frozen hbox 4; have cgh5 := (blk_cell hbox 5).trans rfl; have zgh5 := blk_frozen hbox 5; have cgh6 := (blk_cell hbox 6).trans rfl; have zgh6 := blk_frozen hbox 6; have cgh7 := (blk_cell hbox 7).trans rfl; have zgh7 := blk_frozen hbox 7; have HGgh := Lib.hid hg_; have HBgh := Lib.hid hb3; have HXgh := Lib.hid hbox; clear hg_ hb3 hbox) | fail)
  generalize hw7 : World.setCell _ _ _ = w7
  have S7 : w7.heap[gh]? = some (.cells #[.int .i64 dt, .bool false, .bool nn, .int .i64 0, .bool false, .bool false, .bool sf, .bool true] 78 (0, 0)) := by
    rw [← hw7]
    exact set8 HXgh.out _ _ _ _ _ _ _ _
  have M7 : Mem w w7 gq gt gp t #[.int .i64 kind, .int .i64 0, .int .u32 n, .int .u32 0, .int .u32 0, .slice none 0 0, .bool self, .string ⟨#[]⟩] := by
    have e1 : gh = w5.heap.size := HGgh.out
    have l1 := blk_lt MM5.out.res
    have l2 := blk_lt MM5.out.tail
    have l3 := blk_lt MM5.out.unit
    have m6 := MM5.out.grow HBgh.out
    have p0 : w.heap.size ≤ gh := by rw [e1]; exact MM5.out.below.size
    rw [← hw7]
    exact ⟨far8 m6.res (by omega) _ _ _ _ _ _ _ _, far8 m6.tail (by omega) _ _ _ _ _ _ _ _, far8 m6.unit (by omega) _ _ _ _ _ _ _ _, bel8 m6.below p0 _ _ _ _ _ _ _ _, m6.q0, m6.t0, m6.p0, m6.qt, m6.qp, m6.tp⟩
  have MM7 := Lib.hid M7
  have SS7 := Lib.hid S7
  clear hw7 M7 S7 MM5
  clear cgh0 zgh0 cgh1 zgh1 cgh2 zgh2 cgh3 zgh3 cgh4 zgh4 cgh5 zgh5 cgh6 zgh6 cgh7 zgh7
  refine (pdu_shape_fixed.calls dt false nn 0 false false sf true 1 _ HF.out).mono ?_
  rintro e w8 ⟨rfl, b8⟩
  have M8 := MM7.out.grow b8
  have S8 := blk_below SS7.out b8
  have MM8 := Lib.hid M8
  have SS8 := Lib.hid S8
  clear MM7 SS7 M8 S8 b8
  have cgh0 := (blk_cell SS8.out 0).trans rfl
  have cgh1 := (blk_cell SS8.out 1).trans rfl
  have cgh2 := (blk_cell SS8.out 2).trans rfl
  have cgh3 := (blk_cell SS8.out 3).trans rfl
  have cgh4 := (blk_cell SS8.out 4).trans rfl
  have cgh5 := (blk_cell SS8.out 5).trans rfl
  have cgh6 := (blk_cell SS8.out 6).trans rfl
  have cgh7 := (blk_cell SS8.out 7).trans rfl
  have cgp0 := (blk_cell MM8.out.unit 0).trans rfl
  have cgp1 := (blk_cell MM8.out.unit 1).trans rfl
  have cgp2 := (blk_cell MM8.out.unit 2).trans rfl
  have cgp3 := (blk_cell MM8.out.unit 3).trans rfl
  have cgp4 := (blk_cell MM8.out.unit 4).trans rfl
  have cgp5 := (blk_cell MM8.out.unit 5).trans rfl
  have cgp6 := (blk_cell MM8.out.unit 6).trans rfl
  have cgp7 := (blk_cell MM8.out.unit 7).trans rfl
  go_wp2_with fail
  go_loopw [74] (fun i wr => i = .int .i64 0 ∧ wr = w8) (fun i _ => 0)
  case atStart => exact ⟨rfl, rfl⟩
  case round =>
    obtain ⟨rfl, rfl⟩ := hrel
    go_wp2_with fail
    refine (seq_Num_55.calls 1 (fun _ => True) (.slice none 0 0) [] [] wr wr (Below.refl _ _) (Kd.R_nil _ _ _ _ _) (by decide +kernel)).mono ?_
    rintro e w9 ⟨rfl, _, b9, _⟩
    have M9 := MM8.out.grow b9
    have S9 := blk_below SS8.out b9
    have MM9 := Lib.hid M9
    have SS9 := Lib.hid S9
    clear MM8 SS8 M9 S9 b9
    clear cgh0 cgh1 cgh2 cgh3 cgh4 cgh5 cgh6 cgh7
    clear cgp0 cgp1 cgp2 cgp3 cgp4 cgp5 cgp6 cgp7
    have cgh0 := (blk_cell SS9.out 0).trans rfl
    have cgh1 := (blk_cell SS9.out 1).trans rfl
    have cgh2 := (blk_cell SS9.out 2).trans rfl
    have cgh3 := (blk_cell SS9.out 3).trans rfl
    have cgh4 := (blk_cell SS9.out 4).trans rfl
    have cgh5 := (blk_cell SS9.out 5).trans rfl
    have cgh6 := (blk_cell SS9.out 6).trans rfl
    have cgh7 := (blk_cell SS9.out 7).trans rfl
    have cgp0 := (blk_cell MM9.out.unit 0).trans rfl
    have zgp0 := blk_frozen MM9.out.unit 0
    have cgp1 := (blk_cell MM9.out.unit 1).trans rfl
    have zgp1 := blk_frozen MM9.out.unit 1
    have cgp2 := (blk_cell MM9.out.unit 2).trans rfl
    have zgp2 := blk_frozen MM9.out.unit 2
    have cgp3 := (blk_cell MM9.out.unit 3).trans rfl
    have zgp3 := blk_frozen MM9.out.unit 3
    have cgp4 := (blk_cell MM9.out.unit 4).trans rfl
    have zgp4 := blk_frozen MM9.out.unit 4
    have cgp5 := (blk_cell MM9.out.unit 5).trans rfl
    have zgp5 := blk_frozen MM9.out.unit 5
    have cgp6 := (blk_cell MM9.out.unit 6).trans rfl
    have zgp6 := blk_frozen MM9.out.unit 6
    have cgp7 := (blk_cell MM9.out.unit 7).trans rfl
    have zgp7 := blk_frozen MM9.out.unit 7
    have cgt0 := (blk_cell MM9.out.tail 0).trans rfl
    go_wp2_with fail
    have r1 : (0 : Int) ≤ (t.size : Int) - (pad : Int) := by omega
    have r2 : (t.size : Int) - (pad : Int) ≤ (t.size : Int) := by omega
    have r3 : IntKind.i64.wrap ((t.size : Int) - (pad : Int)) = (t.size : Int) - (pad : Int) := by rw [IntKind.wrap_i64]; omega
    have r4 : ((t.size : Int) - (pad : Int)).toNat = t.size - pad := by omega
    go_still_tail 13, (by kernel_rfl)
    change wpList _ _ _ _ _ w9.drew
    have hdd : t.extract 0 (t.size - pad) = d := HD.out
    rw [hdd]
    clear hdd
    go_wp2_with fail
    have U9 : (w9.setCell ⟨gp, 7, none⟩ (.string d)).drew.heap[gp]? = some (.cells (pduCells kind 0 n 0 0 (.slice none 0 0) self d) 36 (0, 0)) := by
      show (w9.setCell ⟨gp, 7, none⟩ (.string d)).heap[gp]? = _
      have := blk_set (w := w9) MM9.out.unit 7 (.string d)
      simpa [pduCells] using this
    have R9 : (w9.setCell ⟨gp, 7, none⟩ (.string d)).drew.heap[gq]? = _ := blk_far (w := w9) (p := ⟨gp, 7, none⟩) MM9.out.res MM9.out.qp (.string d)
    have B9 : Below w.heap.size w (w9.setCell ⟨gp, 7, none⟩ (.string d)).drew := below_drew1 (MM9.out.below.setCell (p := ⟨gp, 7, none⟩) MM9.out.p0 (.string d))
    generalize (w9.setCell ⟨gp, 7, none⟩ (.string d)).drew = w10 at U9 R9 B9 ⊢
    have HU9 := Lib.hid U9
    have HR9 := Lib.hid R9
    have HB9 := Lib.hid B9
    have hqp := MM9.out.qp
    have HQP := Lib.hid hqp
    have HQ0 := Lib.hid MM9.out.q0
    clear U9 R9 B9 MM9 SS9 hqp
    clear cgh0 cgh1 cgh2 cgh3 cgh4 cgh5 cgh6 cgh7
    clear cgp0 zgp0 cgp1 zgp1 cgp2 zgp2 cgp3 zgp3 cgp4 zgp4 cgp5 zgp5 cgp6 zgp6 cgp7 zgp7
    clear cgt0
    refine (told_ok K gp kind 0 n 0 0 none 0 [] self d s w10 HU9.out (Kd.C_nil _ _) (Nat.le_refl _) HC.out HBY.out).mono ?_
    rintro e w11 ⟨rfl, b11⟩
    have HU : Hid (w11.heap[gp]? = some (.cells #[.int .i64 kind, .int .i64 0, .int .u32 n, .int .u32 0, .int .u32 0, .slice none 0 0, .bool self, .string d] 36 (0, 0))) := Lib.hid (blk_below HU9.out b11)
    have HR := Lib.hid (blk_below HR9.out b11)
    have HB := Lib.hid (below_via b11 HB9.out)
    clear HU9 HR9 HB9 b11
    have cgp0 := (blk_cell HU.out 0).trans rfl
    have cgp1 := (blk_cell HU.out 1).trans rfl
    have cgp2 := (blk_cell HU.out 2).trans rfl
    have cgp3 := (blk_cell HU.out 3).trans rfl
    have cgp4 := (blk_cell HU.out 4).trans rfl
    have cgp5 := (blk_cell HU.out 5).trans rfl
    have cgp6 := (blk_cell HU.out 6).trans rfl
    have cgp7 := (blk_cell HU.out 7).trans rfl
    have cgq0 := (blk_cell HR.out 0).trans rfl
    have zgq0 := blk_frozen HR.out 0
    have cgq1 := (blk_cell HR.out 1).trans rfl
    have zgq1 := blk_frozen HR.out 1
    have cgq2 := (blk_cell HR.out 2).trans rfl
    have zgq2 := blk_frozen HR.out 2
    have cgq3 := (blk_cell HR.out 3).trans rfl
    have zgq3 := blk_frozen HR.out 3
    have cgq4 := (blk_cell HR.out 4).trans rfl
    have zgq4 := blk_frozen HR.out 4
    have cgq5 := (blk_cell HR.out 5).trans rfl
    have zgq5 := blk_frozen HR.out 5
    have cgq6 := (blk_cell HR.out 6).trans rfl
    have zgq6 := blk_frozen HR.out 6
    have cgq7 := (blk_cell HR.out 7).trans rfl
    have zgq7 := blk_frozen HR.out 7
    go_wp2_with fail
    refine bodyPost_ret (results_ct rfl _ _ gq 36 #[.int .i64 kind, .int .i64 0, .int .u32 n, .int .u32 0, .int .u32 0, .slice none 0 0, .bool self, .string d] (0, 0) _ rfl (set8 HR.out _ _ _ _ _ _ _ _) Try.underlying36 rfl (by kernel_rfl)) rfl ?_
    exact ⟨rfl, bel8 HB.out HQ0.out _ _ _ _ _ _ _ _⟩
end Go.Proofs.Ytddaecdhielkkaa
