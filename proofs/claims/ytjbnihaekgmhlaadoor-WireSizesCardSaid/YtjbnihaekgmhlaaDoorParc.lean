/- pdu.Parse: what it gives of a unit's own bytes, in the form of the printed contracts. -/
import Derived.Test.YtjbnihaekgmhlaaDoorBytw
import Derived.StillTailTactics
import Derived.Test.YtjbnihaekgmhlaaDoorPdut
import Derived.Test.YtjbnihaekgmhlaaDoorF57
import Derived.Test.YtjbnihaekgmhlaaDoorF58
import Derived.Deep.DeepCutAuto
import Derived.Test.YtjbnihaekgmhlaaDoorF66
namespace Go.Proofs.YtjbnihaekgmhlaaDoor
open Go.RowKit Pr Go.Proofs.YtjbnihaekgmhlaaDoorW.PrintWords
set_option linter.unusedVariables false
set_option linter.unusedSimpArgs false

/-- A unit's cells. -/
def pduCells (a0 a1 a2 a3 a4 : Int) (v5 : Value) (a6 : Bool) (a7 : ByteArray) : Array Value := #[.int .i64 a0, .int .i64 a1, .int .u32 a2, .int .u32 a3, .int .u32 a4, v5, .bool a6, .string a7]

theorem empty_no (s : ByteArray) (h0 : 0 < s.size) : s.toList.isEmpty = false := by
  rw [ByteArray.toList_eq]
  have : s.data.toList.length = s.size := by rw [Array.length_toList]; rfl
  cases hq : s.data.toList with
  | nil => rw [hq] at this; simp at this; omega
  | cons => rfl

set_option maxHeartbeats 4000000 in
set_option maxRecDepth 1000000 in
theorem told_ok (k : Nat) (g : Nat) (a0 a1 a2 a3 a4 : Int) (A5 : Option Addr) (c5 : Nat) (l5 : List Int) (a6 : Bool) (a7 s : ByteArray) (w : World)
    (hg : w.heap[g]? = some (.cells (pduCells a0 a1 a2 a3 a4 (.slice A5 l5.length c5) a6 a7) 32 (0, 0)))
    (hr : Kd.C (Kd.int .u32) w A5 l5.length l5) (hcap : l5.length ≤ c5) (hc : pdu_PDU_Check.f k a0 a1 a2 a3 a4 l5 a6 a7 = some 0) (hb : pdu_PDU_Bytes.f k a0 a1 a2 a3 a4 l5 a6 a7 = some s) :
    Calls Tryd.prog 59 #[.pointer (some ⟨g, 0, none⟩), .string s] w fun e w' => e = .returned (.int .i64 0) ∧ Below w.heap.size w w' := by
  have HC := Lib.hid hc
  have HR := Lib.hid hr
  have HBy := Lib.hid hb
  clear hc hr hb
  have f0 : w.cell? ⟨g, 0, none⟩ = some (.int .i64 a0) := (blk_cell hg 0).trans rfl
  have f1 : w.cell? ⟨g, 1, none⟩ = some (.int .i64 a1) := (blk_cell hg 1).trans rfl
  have f2 : w.cell? ⟨g, 2, none⟩ = some (.int .u32 a2) := (blk_cell hg 2).trans rfl
  have f3 : w.cell? ⟨g, 3, none⟩ = some (.int .u32 a3) := (blk_cell hg 3).trans rfl
  have f4 : w.cell? ⟨g, 4, none⟩ = some (.int .u32 a4) := (blk_cell hg 4).trans rfl
  have f5 : w.cell? ⟨g, 5, none⟩ = some (.slice A5 l5.length c5) := (blk_cell hg 5).trans rfl
  have f6 : w.cell? ⟨g, 6, none⟩ = some (.bool a6) := (blk_cell hg 6).trans rfl
  have f7 : w.cell? ⟨g, 7, none⟩ = some (.string a7) := (blk_cell hg 7).trans rfl
  have HG := Lib.hid hg
  clear hg
  go_enter Tryd.func59, Tryd.ntmps59
  go_wp2_with fail
  refine (pdu_PDU_Check.calls k a0 a1 a2 a3 a4 A5 c5 l5 a6 a7 0 _ HR.out hcap HC.out).mono ?_
  rintro e w1 ⟨rfl, b1⟩
  have B1 := blk_below HG.out b1
  have d0 : w1.cell? ⟨g, 0, none⟩ = some (.int .i64 a0) := (blk_cell B1 0).trans rfl
  have d1 : w1.cell? ⟨g, 1, none⟩ = some (.int .i64 a1) := (blk_cell B1 1).trans rfl
  have d2 : w1.cell? ⟨g, 2, none⟩ = some (.int .u32 a2) := (blk_cell B1 2).trans rfl
  have d3 : w1.cell? ⟨g, 3, none⟩ = some (.int .u32 a3) := (blk_cell B1 3).trans rfl
  have d4 : w1.cell? ⟨g, 4, none⟩ = some (.int .u32 a4) := (blk_cell B1 4).trans rfl
  have d5 : w1.cell? ⟨g, 5, none⟩ = some (.slice A5 l5.length c5) := (blk_cell B1 5).trans rfl
  have d6 : w1.cell? ⟨g, 6, none⟩ = some (.bool a6) := (blk_cell B1 6).trans rfl
  have d7 : w1.cell? ⟨g, 7, none⟩ = some (.string a7) := (blk_cell B1 7).trans rfl
  clear f0 f1 f2 f3 f4 f5 f6 f7
  go_wp2_with fail
  refine (pdu_PDU_Bytes.calls k a0 a1 a2 a3 a4 A5 c5 l5 a6 a7 s _ (Kd.C_below HR.out b1) hcap HBy.out).mono ?_
  rintro e w2 ⟨rfl, b2⟩
  clear d0 d1 d2 d3 d4 d5 d6 d7
  go_wp2
  go_ret
  exact ⟨rfl, b1.trans (b2.mono b1.size)⟩
end Go.Proofs.YtjbnihaekgmhlaaDoor
namespace Go.Proofs.YtjbnihaekgmhlaaDoor
open Go.RowKit Pr Go.Proofs.YtjbnihaekgmhlaaDoorW.PrintWords
set_option linter.unusedVariables false
set_option linter.unusedSimpArgs false
attribute [local go_sem ↓] Go.wp_at_zero Go.wp_at_succ

theorem two_new (w : World) (X Y : Obj) : ((w.alloc X).alloc Y).heap[w.heap.size + 1]? = some Y := by
  have := blk_new (w.alloc X) Y
  rwa [show (w.alloc X).heap.size = w.heap.size + 1 by simp] at this
theorem set8 {w : World} {g : Nat} {t : TypeId} {v0 v1 v2 v3 v4 v5 v6 v7 : Value} (h : w.heap[g]? = some (.cells #[v0, v1, v2, v3, v4, v5, v6, v7] t (0, 0))) (u0 u1 u2 u3 u4 u5 u6 u7 : Value) :
    ((((((((w.setCell ⟨g, 0, none⟩ u0).setCell ⟨g, 1, none⟩ u1).setCell ⟨g, 2, none⟩ u2).setCell ⟨g, 3, none⟩ u3).setCell ⟨g, 4, none⟩ u4).setCell ⟨g, 5, none⟩ u5).setCell ⟨g, 6, none⟩ u6).setCell ⟨g, 7, none⟩ u7).heap[g]? = some (.cells #[u0, u1, u2, u3, u4, u5, u6, u7] t (0, 0)) := by
  have := blk_set (blk_set (blk_set (blk_set (blk_set (blk_set (blk_set (blk_set h 0 u0) 1 u1) 2 u2) 3 u3) 4 u4) 5 u5) 6 u6) 7 u7
  simpa using this
theorem far8 {w : World} {g : Nat} {k : Nat} {cs : Array Value} {t : TypeId} (h : w.heap[k]? = some (.cells cs t (0, 0))) (hne : k ≠ g) (u0 u1 u2 u3 u4 u5 u6 u7 : Value) :
    ((((((((w.setCell ⟨g, 0, none⟩ u0).setCell ⟨g, 1, none⟩ u1).setCell ⟨g, 2, none⟩ u2).setCell ⟨g, 3, none⟩ u3).setCell ⟨g, 4, none⟩ u4).setCell ⟨g, 5, none⟩ u5).setCell ⟨g, 6, none⟩ u6).setCell ⟨g, 7, none⟩ u7).heap[k]? = some (.cells cs t (0, 0)) :=
  blk_far (p := ⟨g, 7, none⟩) (blk_far (p := ⟨g, 6, none⟩) (blk_far (p := ⟨g, 5, none⟩) (blk_far (p := ⟨g, 4, none⟩) (blk_far (p := ⟨g, 3, none⟩) (blk_far (p := ⟨g, 2, none⟩) (blk_far (p := ⟨g, 1, none⟩) (blk_far (p := ⟨g, 0, none⟩) h hne u0) hne u1) hne u2) hne u3) hne u4) hne u5) hne u6) hne u7
theorem bel8 {a w : World} {B g : Nat} (h : Below B a w) (hg : B ≤ g) (u0 u1 u2 u3 u4 u5 u6 u7 : Value) :
    Below B a ((((((((w.setCell ⟨g, 0, none⟩ u0).setCell ⟨g, 1, none⟩ u1).setCell ⟨g, 2, none⟩ u2).setCell ⟨g, 3, none⟩ u3).setCell ⟨g, 4, none⟩ u4).setCell ⟨g, 5, none⟩ u5).setCell ⟨g, 6, none⟩ u6).setCell ⟨g, 7, none⟩ u7) :=
  (((((((h.setCell (p := ⟨g, 0, none⟩) hg u0).setCell (p := ⟨g, 1, none⟩) hg u1).setCell (p := ⟨g, 2, none⟩) hg u2).setCell (p := ⟨g, 3, none⟩) hg u3).setCell (p := ⟨g, 4, none⟩) hg u4).setCell (p := ⟨g, 5, none⟩) hg u5).setCell (p := ⟨g, 6, none⟩) hg u6).setCell (p := ⟨g, 7, none⟩) hg u7
theorem low27 (x : Int) (w : World) : Calls Tryd.prog 56 #[.int .u32 x] w fun e w' => e = .returned (.int .u32 (Go.bits .and .u32 x 16777215)) ∧ ∃ n, w' = w.drewN n :=
  (seq_Num_Low.calls x _ w rfl).mono fun _ _ ⟨he, hd⟩ => ⟨he, hd.out⟩
theorem bitI_one (b : Bool) : (bitI b == 1) = b := by cases b <;> rfl

/-- What lies in memory while pdu.Parse runs: the result, the rest of the bytes, the unit, its kind's shape. -/
structure Mem (w W : World) (gq gt gp : Nat) (t : ByteArray) (cs : Array Value) : Prop where
  res : W.heap[gq]? = some (.cells #[.int .i64 0, .int .i64 0, .int .u32 0, .int .u32 0, .int .u32 0, .slice none 0 0, .bool false, .string (⟨#[]⟩ : ByteArray)] 32 (0, 0))
  tail : W.heap[gt]? = some (.cells #[.string t] 102 (0, 0))
  unit : W.heap[gp]? = some (.cells cs 32 (0, 0))
  below : Below w.heap.size w W
  q0 : w.heap.size ≤ gq
  t0 : w.heap.size ≤ gt
  p0 : w.heap.size ≤ gp
  qt : gq ≠ gt
  qp : gq ≠ gp
  tp : gt ≠ gp
theorem Mem.grow {w W W1 : World} {gq gt gp : Nat} {t : ByteArray} {cs : Array Value} (h : Mem w W gq gt gp t cs) (hb : Below W.heap.size W W1) : Mem w W1 gq gt gp t cs :=
  ⟨blk_below h.res hb, blk_below h.tail hb, blk_below h.unit hb, below_via hb h.below, h.q0, h.t0, h.p0, h.qt, h.qp, h.tp⟩

set_option maxHeartbeats 8000000 in
set_option maxRecDepth 1000000 in
theorem Parse_c0 (K : Nat) (kind n : Int) (self : Bool) (pad : Nat) (dt : Int) (nn sf : Bool) (w : World) (s t d : ByteArray) (L F : Int)
    (hsh : pdu_shapeOf.f K kind = some (dt, false, nn, 0, false, false, sf, true)) (hs : s.size ≤ 1000000) (h4 : s.size % 4 = 0) (h0 : 0 < s.size) (htk : pdu_tail_take.f s = some (L, t))
    (hn : Go.bits .and .u32 L 16777215 = n) (hself : Go.bits .and .u32 (L / 536870912) 1 = bitI self) (hpad : L / 1073741824 = (pad : Int)) (hk0 : 0 ≤ kind) (hk1 : kind < 16)
    (hk : Go.bits .and .u32 (L / 16777216) 15 = kind) (hfix : pdu_shape_fixed.f dt false nn 0 false false sf true = some 1) (hpt : pad ≤ t.size) (hts : t.size ≤ 1000000) (hd : t.extract 0 (t.size - pad) = d)
    (hc : pdu_PDU_Check.f K kind 0 n 0 0 [] self d = some 0) (hb : pdu_PDU_Bytes.f K kind 0 n 0 0 [] self d = some s) :
    Calls Tryd.prog 23 #[.string s] w fun e w' => e = .returned (.tuple #[.agg #[.int .i64 kind, .int .i64 0, .int .u32 n, .int .u32 0, .int .u32 0, .slice none 0 0, .bool self, .string d], .int .i64 0]) ∧ Below w.heap.size w w' := by
  have HS := Lib.hid hsh
  have HT := Lib.hid htk
  have HF := Lib.hid hfix
  have HD := Lib.hid hd
  have HC := Lib.hid hc
  have HBY := Lib.hid hb
  have hne : s.toList.isEmpty = false := empty_no s h0
  have hq4 : ((s.size : Int) % 4 != 0) = false := by simp; omega
  have hb1 := bitI_one self
  have hs4 : ¬ ((s.size : Int) < 4) := by omega
  have HH4 := Lib.hid h4
  clear hsh htk h4 hfix hd hc hb
  go_enter Tryd.func23, Tryd.ntmps23
  go_wp2_with (first | ((with_reducible refine gate_dst (N := 2) rfl ?_); refine box_event ?hg (N := 2) ?hd (cs := #[.int .i64 0, .int .i64 0, .int .u32 0, .int .u32 0, .int .u32 0, .slice none 0 0, .bool false, .string (⟨#[]⟩ : ByteArray)]) (t := 32) ?hr ?_; (case hd => rfl); (case hg => rfl); (case hr => first | (go_simp; done) | (go_simp; rfl)); intro gq hg_ w01 hbox hb3; have cgq0 := (blk_cell hbox 0).trans rfl; have zgq0 := blk_frozen hbox 0; have cgq1 := (blk_cell hbox 1).trans rfl; have zgq1 := blk_frozen hbox 1; have cgq2 := (blk_cell hbox 2).trans rfl; have zgq2 := blk_frozen hbox 2; have cgq3 := (blk_cell hbox 3).trans rfl; have zgq3 := blk_frozen hbox 3; have cgq4 := (blk_cell hbox 4).trans rfl; have zgq4 := blk_frozen hbox 4; have cgq5 := (blk_cell hbox 5).trans rfl; have zgq5 := blk_frozen hbox 5; have cgq6 := (blk_cell hbox 6).trans rfl; have zgq6 := blk_frozen hbox 6; have cgq7 := (blk_cell hbox 7).trans rfl; have zgq7 := blk_frozen hbox 7; have HGgq := Lib.hid hg_; have HBgq := Lib.hid hb3; have HXgq := Lib.hid hbox; clear hg_ hb3 hbox) | ((with_reducible refine gate_dst (N := 22) rfl ?_); refine box_event ?hg (N := 22) ?hd (cs := #[.string s]) (t := 102) ?hr ?_; (case hd => rfl); (case hg => rfl); (case hr => first | (go_simp; done) | (go_simp; rfl)); intro gt hg_ w02 hbox hb3; have cgt0 := (blk_cell hbox 0).trans rfl; have zgt0 := blk_frozen hbox 0; have HGgt := Lib.hid hg_; have HBgt := Lib.hid hb3; have HXgt := Lib.hid hbox; clear hg_ hb3 hbox))
  have M0 : Mem w w02 gq gt gt s #[.string s] → True := fun _ => trivial
  have q1 : w.heap.size ≤ gq := by rw [HGgq.out]; exact Nat.le_refl _
  have q2 : w.heap.size ≤ gt := by rw [HGgt.out]; exact HBgq.out.size
  have q3 : gq ≠ gt := by rw [HGgt.out]; exact Nat.ne_of_lt (blk_lt HXgq.out)
  have Q1 := Lib.hid q1
  have Q2 := Lib.hid q2
  have Q3 := Lib.hid q3
  have B02 : Hid (Below w.heap.size w w02) := Lib.hid (below_via HBgt.out HBgq.out)
  have R02 := Lib.hid (blk_below HXgq.out HBgt.out)
  clear q1 q2 q3 M0
  refine (pdu_tail_take.calls gt s L t w _ ⟨HXgt.out, Q2.out⟩ B02.out HT.out).mono ?_
  rintro e w1 ⟨rfl, hI, hb, hkb⟩
  have R1 := Lib.hid ((hkb.2 gq (blk_lt R02.out) Q3.out (by simp)).trans R02.out)
  have HI := Lib.hid hI
  have B1 := Lib.hid hb
  clear hI hb hkb cgq0 cgq1 cgq2 cgq3 cgq4 cgq5 cgq6 cgq7 zgq0 zgq1 zgq2 zgq3 zgq4 zgq5 zgq6 zgq7 cgt0 zgt0
  go_wp2_with fail
  refine (low27 L _).mono ?_
  rintro e w2 ⟨rfl, q, rfl⟩
  rw [hn]
  go_wp2_with (first | ((with_reducible refine gate_dst (N := 6) rfl ?_); refine box_event ?hg (N := 6) ?hd (cs := #[.int .i64 0, .int .i64 0, .int .u32 0, .int .u32 0, .int .u32 0, .slice none 0 0, .bool false, .string (⟨#[]⟩ : ByteArray)]) (t := 32) ?hr ?_; (case hd => rfl); (case hg => rfl); (case hr => first | (go_simp; done) | (go_simp; rfl)); intro gp hg_ w3 hbox hb3; have cgp0 := (blk_cell hbox 0).trans rfl; have zgp0 := blk_frozen hbox 0; have cgp1 := (blk_cell hbox 1).trans rfl; have zgp1 := blk_frozen hbox 1; have cgp2 := (blk_cell hbox 2).trans rfl; have zgp2 := blk_frozen hbox 2; have cgp3 := (blk_cell hbox 3).trans rfl; have zgp3 := blk_frozen hbox 3; have cgp4 := (blk_cell hbox 4).trans rfl; have zgp4 := blk_frozen hbox 4; have cgp5 := (blk_cell hbox 5).trans rfl; have zgp5 := blk_frozen hbox 5; have cgp6 := (blk_cell hbox 6).trans rfl; have zgp6 := blk_frozen hbox 6; have cgp7 := (blk_cell hbox 7).trans rfl; have zgp7 := blk_frozen hbox 7; have HGgp := Lib.hid hg_; have HBgp := Lib.hid hb3; have HXgp := Lib.hid hbox; clear hg_ hb3 hbox))
  generalize hw4 : World.setCell _ _ _ = w4
  have M4 : Mem w w4 gq gt gp t #[.int .i64 kind, .int .i64 0, .int .u32 n, .int .u32 0, .int .u32 0, .slice none 0 0, .bool self, .string ⟨#[]⟩] := by
    have e1 : gp = w1.heap.size := HGgp.out
    have l1 := blk_lt R1.out
    have l2 := blk_lt HI.out.1
    have p0 : w.heap.size ≤ gp := by rw [e1]; exact B1.out.size
    have r3 := blk_below (w := w1.drewN q) R1.out HBgp.out
    have t3 := blk_below (w := w1.drewN q) HI.out.1 HBgp.out
    have b3 : Below w.heap.size w w3 := below_via HBgp.out (pw_below_drewN B1.out q)
    rw [← hw4]
    exact ⟨far8 r3 (by omega) _ _ _ _ _ _ _ _, far8 t3 (by omega) _ _ _ _ _ _ _ _, set8 HXgp.out _ _ _ _ _ _ _ _, bel8 b3 p0 _ _ _ _ _ _ _ _, Q1.out, Q2.out, p0, Q3.out, by omega, by omega⟩
  have MM := Lib.hid M4
  clear hw4 M4 R1 HI B1
  clear cgp0 cgp1 cgp2 cgp3 cgp4 cgp5 cgp6 cgp7 zgp0 zgp1 zgp2 zgp3 zgp4 zgp5 zgp6 zgp7
  refine (pdu_shapeOf.calls K kind dt false nn 0 false false sf true _ HS.out).mono ?_
  rintro e w5 ⟨rfl, b5⟩
  have MM5 := Lib.hid (MM.out.grow b5)
  clear MM b5
  go_wp2_with (first | ((with_reducible refine gate_dst (N := 7) rfl ?_); refine box_event ?hg (N := 7) ?hd (cs := #[.int .i64 0, .bool false, .bool false, .int .i64 0, .bool false, .bool false, .bool false, .bool false]) (t := 84) ?hr ?_; (case hd => rfl); (case hg => rfl); (case hr => first | (go_simp; done) | (go_simp; rfl)); intro gh hg_ w6 hbox hb3; have cgh0 := (blk_cell hbox 0).trans rfl; have zgh0 := blk_frozen hbox 0; have cgh1 := (blk_cell hbox 1).trans rfl; have zgh1 := blk_frozen hbox 1; have cgh2 := (blk_cell hbox 2).trans rfl; have zgh2 := blk_frozen hbox 2; have cgh3 := (blk_cell hbox 3).trans rfl; have zgh3 := blk_frozen hbox 3; have cgh4 := (blk_cell hbox 4).trans rfl; have zgh4 := blk_frozen hbox 4; have cgh5 := (blk_cell hbox 5).trans rfl; have zgh5 := blk_frozen hbox 5; have cgh6 := (blk_cell hbox 6).trans rfl; have zgh6 := blk_frozen hbox 6; have cgh7 := (blk_cell hbox 7).trans rfl; have zgh7 := blk_frozen hbox 7; have HGgh := Lib.hid hg_; have HBgh := Lib.hid hb3; have HXgh := Lib.hid hbox; clear hg_ hb3 hbox) | fail)
  generalize hw7 : World.setCell _ _ _ = w7
  have S7 : w7.heap[gh]? = some (.cells #[.int .i64 dt, .bool false, .bool nn, .int .i64 0, .bool false, .bool false, .bool sf, .bool true] 84 (0, 0)) := by
    rw [← hw7]
    exact set8 HXgh.out _ _ _ _ _ _ _ _
  have M7 : Mem w w7 gq gt gp t #[.int .i64 kind, .int .i64 0, .int .u32 n, .int .u32 0, .int .u32 0, .slice none 0 0, .bool self, .string ⟨#[]⟩] := by
    have e1 : gh = w5.heap.size := HGgh.out
    have l1 := blk_lt MM5.out.res
    have l2 := blk_lt MM5.out.tail
    have l3 := blk_lt MM5.out.unit
    have m6 := MM5.out.grow HBgh.out
    have p0 : w.heap.size ≤ gh := by rw [e1]; exact MM5.out.below.size
    rw [← hw7]
    exact ⟨far8 m6.res (by omega) _ _ _ _ _ _ _ _, far8 m6.tail (by omega) _ _ _ _ _ _ _ _, far8 m6.unit (by omega) _ _ _ _ _ _ _ _, bel8 m6.below p0 _ _ _ _ _ _ _ _, m6.q0, m6.t0, m6.p0, m6.qt, m6.qp, m6.tp⟩
  have MM7 := Lib.hid M7
  have SS7 := Lib.hid S7
  clear hw7 M7 S7 MM5
  clear cgh0 zgh0 cgh1 zgh1 cgh2 zgh2 cgh3 zgh3 cgh4 zgh4 cgh5 zgh5 cgh6 zgh6 cgh7 zgh7
  refine (pdu_shape_fixed.calls dt false nn 0 false false sf true 1 _ HF.out).mono ?_
  rintro e w8 ⟨rfl, b8⟩
  have M8 := MM7.out.grow b8
  have S8 := blk_below SS7.out b8
  have MM8 := Lib.hid M8
  have SS8 := Lib.hid S8
  clear MM7 SS7 M8 S8 b8
  have cgh0 := (blk_cell SS8.out 0).trans rfl
  have cgh1 := (blk_cell SS8.out 1).trans rfl
  have cgh2 := (blk_cell SS8.out 2).trans rfl
  have cgh3 := (blk_cell SS8.out 3).trans rfl
  have cgh4 := (blk_cell SS8.out 4).trans rfl
  have cgh5 := (blk_cell SS8.out 5).trans rfl
  have cgh6 := (blk_cell SS8.out 6).trans rfl
  have cgh7 := (blk_cell SS8.out 7).trans rfl
  have cgp0 := (blk_cell MM8.out.unit 0).trans rfl
  have cgp1 := (blk_cell MM8.out.unit 1).trans rfl
  have cgp2 := (blk_cell MM8.out.unit 2).trans rfl
  have cgp3 := (blk_cell MM8.out.unit 3).trans rfl
  have cgp4 := (blk_cell MM8.out.unit 4).trans rfl
  have cgp5 := (blk_cell MM8.out.unit 5).trans rfl
  have cgp6 := (blk_cell MM8.out.unit 6).trans rfl
  have cgp7 := (blk_cell MM8.out.unit 7).trans rfl
  go_wp2_with fail
  go_loopw [74] (fun i wr => i = .int .i64 0 ∧ wr = w8) (fun i _ => 0)
  case atStart => exact ⟨rfl, rfl⟩
  case round =>
    obtain ⟨rfl, rfl⟩ := hrel
    go_wp2_with fail
    refine (seq_Num_58.calls 1 (fun _ => True) (.slice none 0 0) [] [] wr wr (Below.refl _ _) (Kd.R_nil _ _ _ _ _) (by decide +kernel)).mono ?_
    rintro e w9 ⟨rfl, _, b9, _⟩
    have M9 := MM8.out.grow b9
    have S9 := blk_below SS8.out b9
    have MM9 := Lib.hid M9
    have SS9 := Lib.hid S9
    clear MM8 SS8 M9 S9 b9
    clear cgh0 cgh1 cgh2 cgh3 cgh4 cgh5 cgh6 cgh7
    clear cgp0 cgp1 cgp2 cgp3 cgp4 cgp5 cgp6 cgp7
    have cgh0 := (blk_cell SS9.out 0).trans rfl
    have cgh1 := (blk_cell SS9.out 1).trans rfl
    have cgh2 := (blk_cell SS9.out 2).trans rfl
    have cgh3 := (blk_cell SS9.out 3).trans rfl
    have cgh4 := (blk_cell SS9.out 4).trans rfl
    have cgh5 := (blk_cell SS9.out 5).trans rfl
    have cgh6 := (blk_cell SS9.out 6).trans rfl
    have cgh7 := (blk_cell SS9.out 7).trans rfl
    have cgp0 := (blk_cell MM9.out.unit 0).trans rfl
    have zgp0 := blk_frozen MM9.out.unit 0
    have cgp1 := (blk_cell MM9.out.unit 1).trans rfl
    have zgp1 := blk_frozen MM9.out.unit 1
    have cgp2 := (blk_cell MM9.out.unit 2).trans rfl
    have zgp2 := blk_frozen MM9.out.unit 2
    have cgp3 := (blk_cell MM9.out.unit 3).trans rfl
    have zgp3 := blk_frozen MM9.out.unit 3
    have cgp4 := (blk_cell MM9.out.unit 4).trans rfl
    have zgp4 := blk_frozen MM9.out.unit 4
    have cgp5 := (blk_cell MM9.out.unit 5).trans rfl
    have zgp5 := blk_frozen MM9.out.unit 5
    have cgp6 := (blk_cell MM9.out.unit 6).trans rfl
    have zgp6 := blk_frozen MM9.out.unit 6
    have cgp7 := (blk_cell MM9.out.unit 7).trans rfl
    have zgp7 := blk_frozen MM9.out.unit 7
    have cgt0 := (blk_cell MM9.out.tail 0).trans rfl
    go_wp2_with fail
    have r1 : (0 : Int) ≤ (t.size : Int) - (pad : Int) := by omega
    have r2 : (t.size : Int) - (pad : Int) ≤ (t.size : Int) := by omega
    have r3 : IntKind.i64.wrap ((t.size : Int) - (pad : Int)) = (t.size : Int) - (pad : Int) := by rw [IntKind.wrap_i64]; omega
    have r4 : ((t.size : Int) - (pad : Int)).toNat = t.size - pad := by omega
    go_still_tail 13, (by kernel_rfl)
    change wpList _ _ _ _ _ w9.drew
    have hdd : t.extract 0 (t.size - pad) = d := HD.out
    rw [hdd]
    clear hdd
    go_wp2_with fail
    have U9 : (w9.setCell ⟨gp, 7, none⟩ (.string d)).drew.heap[gp]? = some (.cells (pduCells kind 0 n 0 0 (.slice none 0 0) self d) 32 (0, 0)) := by
      show (w9.setCell ⟨gp, 7, none⟩ (.string d)).heap[gp]? = _
      have := blk_set (w := w9) MM9.out.unit 7 (.string d)
      simpa [pduCells] using this
    have R9 : (w9.setCell ⟨gp, 7, none⟩ (.string d)).drew.heap[gq]? = _ := blk_far (w := w9) (p := ⟨gp, 7, none⟩) MM9.out.res MM9.out.qp (.string d)
    have B9 : Below w.heap.size w (w9.setCell ⟨gp, 7, none⟩ (.string d)).drew := below_drew1 (MM9.out.below.setCell (p := ⟨gp, 7, none⟩) MM9.out.p0 (.string d))
    generalize (w9.setCell ⟨gp, 7, none⟩ (.string d)).drew = w10 at U9 R9 B9 ⊢
    have HU9 := Lib.hid U9
    have HR9 := Lib.hid R9
    have HB9 := Lib.hid B9
    have hqp := MM9.out.qp
    have HQP := Lib.hid hqp
    have HQ0 := Lib.hid MM9.out.q0
    clear U9 R9 B9 MM9 SS9 hqp
    clear cgh0 cgh1 cgh2 cgh3 cgh4 cgh5 cgh6 cgh7
    clear cgp0 zgp0 cgp1 zgp1 cgp2 zgp2 cgp3 zgp3 cgp4 zgp4 cgp5 zgp5 cgp6 zgp6 cgp7 zgp7
    clear cgt0
    refine (told_ok K gp kind 0 n 0 0 none 0 [] self d s w10 HU9.out (Kd.C_nil _ _) (Nat.le_refl _) HC.out HBY.out).mono ?_
    rintro e w11 ⟨rfl, b11⟩
    have HU : Hid (w11.heap[gp]? = some (.cells #[.int .i64 kind, .int .i64 0, .int .u32 n, .int .u32 0, .int .u32 0, .slice none 0 0, .bool self, .string d] 32 (0, 0))) := Lib.hid (blk_below HU9.out b11)
    have HR := Lib.hid (blk_below HR9.out b11)
    have HB := Lib.hid (below_via b11 HB9.out)
    clear HU9 HR9 HB9 b11
    have cgp0 := (blk_cell HU.out 0).trans rfl
    have cgp1 := (blk_cell HU.out 1).trans rfl
    have cgp2 := (blk_cell HU.out 2).trans rfl
    have cgp3 := (blk_cell HU.out 3).trans rfl
    have cgp4 := (blk_cell HU.out 4).trans rfl
    have cgp5 := (blk_cell HU.out 5).trans rfl
    have cgp6 := (blk_cell HU.out 6).trans rfl
    have cgp7 := (blk_cell HU.out 7).trans rfl
    have cgq0 := (blk_cell HR.out 0).trans rfl
    have zgq0 := blk_frozen HR.out 0
    have cgq1 := (blk_cell HR.out 1).trans rfl
    have zgq1 := blk_frozen HR.out 1
    have cgq2 := (blk_cell HR.out 2).trans rfl
    have zgq2 := blk_frozen HR.out 2
    have cgq3 := (blk_cell HR.out 3).trans rfl
    have zgq3 := blk_frozen HR.out 3
    have cgq4 := (blk_cell HR.out 4).trans rfl
    have zgq4 := blk_frozen HR.out 4
    have cgq5 := (blk_cell HR.out 5).trans rfl
    have zgq5 := blk_frozen HR.out 5
    have cgq6 := (blk_cell HR.out 6).trans rfl
    have zgq6 := blk_frozen HR.out 6
    have cgq7 := (blk_cell HR.out 7).trans rfl
    have zgq7 := blk_frozen HR.out 7
    go_wp2_with fail
    refine bodyPost_ret (results_ct rfl _ _ gq 32 #[.int .i64 kind, .int .i64 0, .int .u32 n, .int .u32 0, .int .u32 0, .slice none 0 0, .bool self, .string d] (0, 0) _ rfl (set8 HR.out _ _ _ _ _ _ _ _) Tryd.underlying32 rfl (by kernel_rfl)) rfl ?_
    exact ⟨rfl, bel8 HB.out HQ0.out _ _ _ _ _ _ _ _⟩
end Go.Proofs.YtjbnihaekgmhlaaDoor
namespace Go.Proofs.YtjbnihaekgmhlaaDoor
open Go.RowKit Pr Go.Proofs.YtjbnihaekgmhlaaDoorW.PrintWords Go.Proofs.YtjbnihaekgmhlaaDoorW.PrintLast Go.Proofs.YtjbnihaekgmhlaaDoorW.PrintMore
set_option linter.unusedVariables false
set_option linter.unusedSimpArgs false
attribute [local go_sem ↓] Go.wp_at_zero Go.wp_at_succ

def shapeCells (dt : Int) (sq nn : Bool) (ls : Int) (hps hmr sf : Bool) : Array Value := #[.int .i64 dt, .bool sq, .bool nn, .int .i64 ls, .bool hps, .bool hmr, .bool sf, .bool true]
/-- What lies in memory while pdu.Parse runs, with the kind's shape. -/
structure MemH (w W : World) (gq gt gp gh : Nat) (t : ByteArray) (cs sc : Array Value) : Prop extends Mem w W gq gt gp t cs where
  sh : W.heap[gh]? = some (.cells sc 84 (0, 0))
  ht : gh ≠ gt
  hp : gh ≠ gp
  hq : gh ≠ gq
theorem MemH.grow {w W W1 : World} {gq gt gp gh : Nat} {t : ByteArray} {cs sc : Array Value} (h : MemH w W gq gt gp gh t cs sc) (hb : Below W.heap.size W W1) : MemH w W1 gq gt gp gh t cs sc :=
  ⟨h.toMem.grow hb, blk_below h.sh hb, h.ht, h.hp, h.hq⟩
theorem MemH.take {w W W1 : World} {gq gt gp gh : Nat} {t t' : ByteArray} {cs sc : Array Value} (h : MemH w W gq gt gp gh t cs sc) (hI : IsS102 w W1 gt t') (hb : Below w.heap.size w W1) (hk : KeepBut W W1 gt none) : MemH w W1 gq gt gp gh t' cs sc :=
  ⟨⟨hk.blk h.res h.qt (by simp), hI.1, hk.blk h.unit (Ne.symm h.tp) (by simp), hb, h.q0, h.t0, h.p0, h.qt, h.qp, h.tp⟩, hk.blk h.sh h.ht (by simp), h.ht, h.hp, h.hq⟩
theorem MemH.setUnit {w W : World} {gq gt gp gh : Nat} {t : ByteArray} {cs sc : Array Value} (h : MemH w W gq gt gp gh t cs sc) (i : Nat) (u : Value) : MemH w (W.setCell ⟨gp, i, none⟩ u) gq gt gp gh t (cs.setIfInBounds i u) sc :=
  ⟨⟨blk_far (p := ⟨gp, i, none⟩) h.res h.qp u, blk_far (p := ⟨gp, i, none⟩) h.tail h.tp u, blk_set h.unit i u, h.below.setCell (p := ⟨gp, i, none⟩) h.p0 u, h.q0, h.t0, h.p0, h.qt, h.qp, h.tp⟩, blk_far (p := ⟨gp, i, none⟩) h.sh h.hp u, h.ht, h.hp, h.hq⟩
theorem MemH.drew {w W : World} {gq gt gp gh : Nat} {t : ByteArray} {cs sc : Array Value} (h : MemH w W gq gt gp gh t cs sc) : MemH w W.drew gq gt gp gh t cs sc := h.grow (below_drew (Below.refl _ _))
theorem MemH.alloc {w W : World} {gq gt gp gh : Nat} {t : ByteArray} {cs sc : Array Value} (h : MemH w W gq gt gp gh t cs sc) (o : Obj) : MemH w (W.alloc o) gq gt gp gh t cs sc := h.grow (below_alloc (Below.refl _ _) o)
theorem MemH.grown {w W W1 : World} {gq gt gp gh : Nat} {t : ByteArray} {cs sc : Array Value} {base : Nat} {ok : Nat → Prop} {v : Value} {xs : List Int} (h : MemH w W gq gt gp gh t cs sc) (hg : W.grownBy W1 v.ownBlock) (hb : Below w.heap.size w W1) (ho : Kd.R (Kd.int .u32) 29 W base ok v xs) : MemH w W1 gq gt gp gh t cs sc :=
  ⟨⟨blk_grown h.res hg (Kd.R_ne ho h.res (by decide)), blk_grown h.tail hg (Kd.R_ne ho h.tail (by decide)), blk_grown h.unit hg (Kd.R_ne ho h.unit (by decide)), hb, h.q0, h.t0, h.p0, h.qt, h.qp, h.tp⟩, blk_grown h.sh hg (Kd.R_ne ho h.sh (by decide)), h.ht, h.hp, h.hq⟩
def offOurs (gq gt gp gh : Nat) (k : Nat) : Prop := k ≠ gq ∧ k ≠ gt ∧ k ≠ gp ∧ k ≠ gh
theorem MemH.off {w W : World} {gq gt gp gh : Nat} {t : ByteArray} {cs sc : Array Value} {base : Nat} {ok : Nat → Prop} {v : Value} {xs : List Int} (h : MemH w W gq gt gp gh t cs sc) (ho : Kd.R (Kd.int .u32) 29 W base ok v xs) : Kd.R (Kd.int .u32) 29 W base (offOurs gq gt gp gh) v xs := by
  have e : (Kd.int .u32).E = [] := rfl
  refine Kd.R_mono (Kd.R_types (Kd.R_types (Kd.R_types (Kd.R_types ho h.res ?_) h.tail ?_) h.unit ?_) h.sh ?_) (fun k hk => ⟨hk.1.1.1.2, hk.1.1.2, hk.1.2, hk.2⟩)
  all_goals
    intro q hq
    rw [e] at hq
    simp only [List.mem_cons, List.not_mem_nil, or_false] at hq
    subst hq
    decide
theorem MemH.kept {w W W1 : World} {gq gt gp gh : Nat} {t : ByteArray} {cs sc : Array Value} (h : MemH w W gq gt gp gh t cs sc) (hk : Kept W W1 (offOurs gq gt gp gh)) (hb : Below w.heap.size w W1) : MemH w W1 gq gt gp gh t cs sc :=
  ⟨⟨(hk.2 _ (blk_lt h.res) (fun q => q.1 rfl)).trans h.res, (hk.2 _ (blk_lt h.tail) (fun q => q.2.1 rfl)).trans h.tail, (hk.2 _ (blk_lt h.unit) (fun q => q.2.2.1 rfl)).trans h.unit, hb, h.q0, h.t0, h.p0, h.qt, h.qp, h.tp⟩, (hk.2 _ (blk_lt h.sh) (fun q => q.2.2.2 rfl)).trans h.sh, h.ht, h.hp, h.hq⟩
def parseT : Bool × List (List Nat × List Nat) := (true, [([], []), ([0], [0]), ([], []), ([2], [2]), ([3], [3]), ([1, 4, 3], [1, 4]), ([0, 1, 2, 3, 4, 5], []), ([6, 5, 5, 0, 1, 2, 3, 4, 5], [5, 6])])
def parseB : List Nat := [0, 1, 0, 4, 12, 31, 63, 127]
theorem parse_tab : rtab .any (opsOf Tryd.f23 21) = parseT := by kernel_rfl
theorem parse_bits : waitsOk parseT.2 parseB = true := by kernel_rfl

set_option maxHeartbeats 32000000 in
set_option maxRecDepth 1000000 in
theorem Parse_any (K : Nat) (kind n mr ps sqv : Int) (self : Bool) (pad : Nat) (dt : Int) (sq nn : Bool) (ls : Int) (hps hmr sf : Bool) (l : List Int) (N : Nat) (ts : Nat → ByteArray) (w : World) (s t t1 t4 d : ByteArray) (L nf : Int)
    (hsh : pdu_shapeOf.f K kind = some (dt, sq, nn, ls, hps, hmr, sf, true)) (hs : s.size ≤ 1000000) (h4 : s.size % 4 = 0) (h0 : 0 < s.size) (htk : pdu_tail_take.f s = some (L, t))
    (hn : Go.bits .and .u32 L 16777215 = n) (hself : Go.bits .and .u32 (L / 536870912) 1 = bitI self) (hpad : L / 1073741824 = (pad : Int)) (hk0 : 0 ≤ kind) (hk1 : kind < 16)
    (hk : Go.bits .and .u32 (L / 16777216) 15 = kind) (hfix : pdu_shape_fixed.f dt sq nn ls hps hmr sf true = some nf) (hnf0 : 0 ≤ nf) (hnf1 : nf ≤ 10) (hnf : nf * 4 ≤ (s.size : Int))
    (hmrT : (hmr = true → pdu_tail_take.f t = some (mr, t1)) ∧ (hmr = false → mr = 0 ∧ t1 = t))
    (hpsT : (hps = true → pdu_tail_take.f t1 = some (ps, ts 0)) ∧ (hps = false → ps = 0 ∧ ts 0 = t1))
    (hN : N = l.length) (hls : (ls < 0 ∧ (ts 0).size / 4 = N) ∨ (0 ≤ ls ∧ ls = (N : Int))) (hts0 : (ts 0).size ≤ 1000000) (hN1 : N ≤ 1000000)
    (htsT : ∀ j x, l.reverse[j]? = some x → pdu_tail_take.f (ts j) = some (x, ts (j + 1)))
    (hrev : seq_Num_58.f K l.reverse = some l)
    (hsqT : (sq = true → pdu_tail_take.f (ts N) = some (sqv, t4)) ∧ (sq = false → sqv = 0 ∧ t4 = ts N)) (hsq0 : 0 ≤ sqv) (hsq1 : sqv < 4294967296)
    (hpt : pad ≤ t4.size) (hts : t4.size ≤ 1000000) (hd : t4.extract 0 (t4.size - pad) = d)
    (hc : pdu_PDU_Check.f K kind sqv n ps mr l self d = some 0) (hb : pdu_PDU_Bytes.f K kind sqv n ps mr l self d = some s) :
    Calls Tryd.prog 23 #[.string s] w fun e w' => ∃ v : Value, e = .returned (.tuple #[.agg #[.int .i64 kind, .int .i64 sqv, .int .u32 n, .int .u32 ps, .int .u32 mr, v, .bool self, .string d], .int .i64 0]) ∧ Kd.R (Kd.int .u32) 29 w' w.heap.size (fun _ => True) v l ∧ Below w.heap.size w w' := by
  have HS := Lib.hid hsh
  have HT := Lib.hid htk
  have HF := Lib.hid hfix
  have HD := Lib.hid hd
  have HC := Lib.hid hc
  have HBY := Lib.hid hb
  have HMR := Lib.hid hmrT
  have HPS := Lib.hid hpsT
  have HN := Lib.hid hN
  have HLS := Lib.hid hls
  have HTS := Lib.hid htsT
  have HREV := Lib.hid hrev
  have HSQ := Lib.hid hsqT
  have HNF := Lib.hid hnf
  have HSQ0 := Lib.hid hsq0
  have HSQ1 := Lib.hid hsq1
  have HTS0 := Lib.hid hts0
  have HN1 := Lib.hid hN1
  have HPT := Lib.hid hpt
  have HT4 := Lib.hid hts
  have hne : s.toList.isEmpty = false := empty_no s h0
  have hq4 : ((s.size : Int) % 4 != 0) = false := by simp; omega
  have hb1 := bitI_one self
  have HH4 := Lib.hid h4
  have hpb : pad ≤ 1000000 := by omega
  clear hsh htk h4 hfix hd hc hb hmrT hpsT hN hls htsT hrev hsqT hnf hsq0 hsq1 hts0 hN1 hpt hts
  go_enter Tryd.func23, Tryd.ntmps23
  go_wp2_with (first | ((with_reducible refine gate_dst (N := 2) rfl ?_); refine box_event ?hg (N := 2) ?hd (cs := #[.int .i64 0, .int .i64 0, .int .u32 0, .int .u32 0, .int .u32 0, .slice none 0 0, .bool false, .string (⟨#[]⟩ : ByteArray)]) (t := 32) ?hr ?_; (case hd => rfl); (case hg => rfl); (case hr => first | (go_simp; done) | (go_simp; rfl)); intro gq hg_ w01 hbox hb3; have cgq0 := (blk_cell hbox 0).trans rfl; have zgq0 := blk_frozen hbox 0; have cgq1 := (blk_cell hbox 1).trans rfl; have zgq1 := blk_frozen hbox 1; have cgq2 := (blk_cell hbox 2).trans rfl; have zgq2 := blk_frozen hbox 2; have cgq3 := (blk_cell hbox 3).trans rfl; have zgq3 := blk_frozen hbox 3; have cgq4 := (blk_cell hbox 4).trans rfl; have zgq4 := blk_frozen hbox 4; have cgq5 := (blk_cell hbox 5).trans rfl; have zgq5 := blk_frozen hbox 5; have cgq6 := (blk_cell hbox 6).trans rfl; have zgq6 := blk_frozen hbox 6; have cgq7 := (blk_cell hbox 7).trans rfl; have zgq7 := blk_frozen hbox 7; have HGgq := Lib.hid hg_; have HBgq := Lib.hid hb3; have HXgq := Lib.hid hbox; clear hg_ hb3 hbox) | ((with_reducible refine gate_dst (N := 22) rfl ?_); refine box_event ?hg (N := 22) ?hd (cs := #[.string s]) (t := 102) ?hr ?_; (case hd => rfl); (case hg => rfl); (case hr => first | (go_simp; done) | (go_simp; rfl)); intro gt hg_ w02 hbox hb3; have cgt0 := (blk_cell hbox 0).trans rfl; have zgt0 := blk_frozen hbox 0; have HGgt := Lib.hid hg_; have HBgt := Lib.hid hb3; have HXgt := Lib.hid hbox; clear hg_ hb3 hbox))
  have q1 : w.heap.size ≤ gq := by rw [HGgq.out]; exact Nat.le_refl _
  have q2 : w.heap.size ≤ gt := by rw [HGgt.out]; exact HBgq.out.size
  have q3 : gq ≠ gt := by rw [HGgt.out]; exact Nat.ne_of_lt (blk_lt HXgq.out)
  have Q1 := Lib.hid q1
  have Q2 := Lib.hid q2
  have Q3 := Lib.hid q3
  have B02 : Hid (Below w.heap.size w w02) := Lib.hid (below_via HBgt.out HBgq.out)
  have R02 := Lib.hid (blk_below HXgq.out HBgt.out)
  clear q1 q2 q3
  refine (pdu_tail_take.calls gt s L t w _ ⟨HXgt.out, Q2.out⟩ B02.out HT.out).mono ?_
  rintro e w1 ⟨rfl, hI, hb, hkb⟩
  have R1 := Lib.hid ((hkb.2 gq (blk_lt R02.out) Q3.out (by simp)).trans R02.out)
  have HI := Lib.hid hI
  have B1 := Lib.hid hb
  clear hI hb hkb cgq0 cgq1 cgq2 cgq3 cgq4 cgq5 cgq6 cgq7 zgq0 zgq1 zgq2 zgq3 zgq4 zgq5 zgq6 zgq7 cgt0 zgt0
  go_wp2_with fail
  refine (low27 L _).mono ?_
  rintro e w2 ⟨rfl, q, rfl⟩
  rw [hn]
  go_wp2_with (first | ((with_reducible refine gate_dst (N := 6) rfl ?_); refine box_event ?hg (N := 6) ?hd (cs := #[.int .i64 0, .int .i64 0, .int .u32 0, .int .u32 0, .int .u32 0, .slice none 0 0, .bool false, .string (⟨#[]⟩ : ByteArray)]) (t := 32) ?hr ?_; (case hd => rfl); (case hg => rfl); (case hr => first | (go_simp; done) | (go_simp; rfl)); intro gp hg_ w3 hbox hb3; have cgp0 := (blk_cell hbox 0).trans rfl; have zgp0 := blk_frozen hbox 0; have cgp1 := (blk_cell hbox 1).trans rfl; have zgp1 := blk_frozen hbox 1; have cgp2 := (blk_cell hbox 2).trans rfl; have zgp2 := blk_frozen hbox 2; have cgp3 := (blk_cell hbox 3).trans rfl; have zgp3 := blk_frozen hbox 3; have cgp4 := (blk_cell hbox 4).trans rfl; have zgp4 := blk_frozen hbox 4; have cgp5 := (blk_cell hbox 5).trans rfl; have zgp5 := blk_frozen hbox 5; have cgp6 := (blk_cell hbox 6).trans rfl; have zgp6 := blk_frozen hbox 6; have cgp7 := (blk_cell hbox 7).trans rfl; have zgp7 := blk_frozen hbox 7; have HGgp := Lib.hid hg_; have HBgp := Lib.hid hb3; have HXgp := Lib.hid hbox; clear hg_ hb3 hbox))
  generalize hw4 : World.setCell _ _ _ = w4
  have M4 : Mem w w4 gq gt gp t (pduCells kind 0 n 0 0 (.slice none 0 0) self ⟨#[]⟩) := by
    have e1 : gp = w1.heap.size := HGgp.out
    have l1 := blk_lt R1.out
    have l2 := blk_lt HI.out.1
    have p0 : w.heap.size ≤ gp := by rw [e1]; exact B1.out.size
    have r3 := blk_below (w := w1.drewN q) R1.out HBgp.out
    have t3 := blk_below (w := w1.drewN q) HI.out.1 HBgp.out
    have b3 : Below w.heap.size w w3 := below_via HBgp.out (pw_below_drewN B1.out q)
    rw [← hw4]
    exact ⟨far8 r3 (by omega) _ _ _ _ _ _ _ _, far8 t3 (by omega) _ _ _ _ _ _ _ _, set8 HXgp.out _ _ _ _ _ _ _ _, bel8 b3 p0 _ _ _ _ _ _ _ _, Q1.out, Q2.out, p0, Q3.out, by omega, by omega⟩
  have MM := Lib.hid M4
  clear hw4 M4 R1 HI B1
  clear cgp0 cgp1 cgp2 cgp3 cgp4 cgp5 cgp6 cgp7 zgp0 zgp1 zgp2 zgp3 zgp4 zgp5 zgp6 zgp7
  have cgp0 : w4.cell? ⟨gp, 0, none⟩ = some (.int .i64 kind) := (blk_cell MM.out.unit 0).trans rfl
  go_wp2_with fail
  refine (pdu_shapeOf.calls K kind dt sq nn ls hps hmr sf true _ HS.out).mono ?_
  rintro e w5 ⟨rfl, b5⟩
  have MM5 := Lib.hid (MM.out.grow b5)
  clear MM b5 cgp0
  go_wp2_with (first | ((with_reducible refine gate_dst (N := 7) rfl ?_); refine box_event ?hg (N := 7) ?hd (cs := #[.int .i64 0, .bool false, .bool false, .int .i64 0, .bool false, .bool false, .bool false, .bool false]) (t := 84) ?hr ?_; (case hd => rfl); (case hg => rfl); (case hr => first | (go_simp; done) | (go_simp; rfl)); intro gh hg_ w6 hbox hb3; have cgh0 := (blk_cell hbox 0).trans rfl; have zgh0 := blk_frozen hbox 0; have cgh1 := (blk_cell hbox 1).trans rfl; have zgh1 := blk_frozen hbox 1; have cgh2 := (blk_cell hbox 2).trans rfl; have zgh2 := blk_frozen hbox 2; have cgh3 := (blk_cell hbox 3).trans rfl; have zgh3 := blk_frozen hbox 3; have cgh4 := (blk_cell hbox 4).trans rfl; have zgh4 := blk_frozen hbox 4; have cgh5 := (blk_cell hbox 5).trans rfl; have zgh5 := blk_frozen hbox 5; have cgh6 := (blk_cell hbox 6).trans rfl; have zgh6 := blk_frozen hbox 6; have cgh7 := (blk_cell hbox 7).trans rfl; have zgh7 := blk_frozen hbox 7; have HGgh := Lib.hid hg_; have HBgh := Lib.hid hb3; have HXgh := Lib.hid hbox; clear hg_ hb3 hbox) | fail)
  generalize hw7 : World.setCell _ _ _ = w7
  have S7 : w7.heap[gh]? = some (.cells (shapeCells dt sq nn ls hps hmr sf) 84 (0, 0)) := by
    rw [← hw7]
    exact set8 HXgh.out _ _ _ _ _ _ _ _
  have M7 : MemH w w7 gq gt gp gh t (pduCells kind 0 n 0 0 (.slice none 0 0) self ⟨#[]⟩) (shapeCells dt sq nn ls hps hmr sf) := by
    have e1 : gh = w5.heap.size := HGgh.out
    have l1 := blk_lt MM5.out.res
    have l2 := blk_lt MM5.out.tail
    have l3 := blk_lt MM5.out.unit
    have m6 := MM5.out.grow HBgh.out
    have p0 : w.heap.size ≤ gh := by rw [e1]; exact MM5.out.below.size
    refine ⟨?_, S7, by omega, by omega, by omega⟩
    rw [← hw7]
    exact ⟨far8 m6.res (by omega) _ _ _ _ _ _ _ _, far8 m6.tail (by omega) _ _ _ _ _ _ _ _, far8 m6.unit (by omega) _ _ _ _ _ _ _ _, bel8 m6.below p0 _ _ _ _ _ _ _ _, m6.q0, m6.t0, m6.p0, m6.qt, m6.qp, m6.tp⟩
  have MM7 := Lib.hid M7
  clear hw7 M7 S7 MM5
  clear cgh0 zgh0 cgh1 zgh1 cgh2 zgh2 cgh3 zgh3 cgh4 zgh4 cgh5 zgh5 cgh6 zgh6 cgh7 zgh7
  have cgh0 : w7.cell? ⟨gh, 0, none⟩ = some (.int .i64 dt) := (blk_cell MM7.out.sh 0).trans rfl
  have cgh1 : w7.cell? ⟨gh, 1, none⟩ = some (.bool sq) := (blk_cell MM7.out.sh 1).trans rfl
  have cgh2 : w7.cell? ⟨gh, 2, none⟩ = some (.bool nn) := (blk_cell MM7.out.sh 2).trans rfl
  have cgh3 : w7.cell? ⟨gh, 3, none⟩ = some (.int .i64 ls) := (blk_cell MM7.out.sh 3).trans rfl
  have cgh4 : w7.cell? ⟨gh, 4, none⟩ = some (.bool hps) := (blk_cell MM7.out.sh 4).trans rfl
  have cgh5 : w7.cell? ⟨gh, 5, none⟩ = some (.bool hmr) := (blk_cell MM7.out.sh 5).trans rfl
  have cgh6 : w7.cell? ⟨gh, 6, none⟩ = some (.bool sf) := (blk_cell MM7.out.sh 6).trans rfl
  have cgh7 : w7.cell? ⟨gh, 7, none⟩ = some (.bool true) := (blk_cell MM7.out.sh 7).trans rfl
  go_wp2_with fail
  refine (pdu_shape_fixed.calls dt sq nn ls hps hmr sf true nf _ HF.out).mono ?_
  rintro e w8 ⟨rfl, b8⟩
  have M8 := MM7.out.grow b8
  have MM8 := Lib.hid M8
  clear MM7 M8 b8 cgh0 cgh1 cgh2 cgh3 cgh4 cgh5 cgh6 cgh7
  have nf1 : ¬ ((s.size : Int) < nf * 4) := Int.not_lt.mpr HNF.out
  have cgh5 : w8.cell? ⟨gh, 5, none⟩ = some (.bool hmr) := (blk_cell MM8.out.sh 5).trans rfl
  go_upto_if 54 with (fail)
  clear nf1
  clear cgh5
  go_cut [] (fun wx => Hid (MemH w wx gq gt gp gh t1 (pduCells kind 0 n 0 mr (.slice none 0 0) self ⟨#[]⟩) (shapeCells dt sq nn ls hps hmr sf)))
  case first =>
    have cgt0 := (blk_cell MM8.out.tail 0).trans rfl
    have cgp4 : w8.cell? ⟨gp, 4, none⟩ = some (.int .u32 0) := (blk_cell MM8.out.unit 4).trans rfl
    have zgp4 := blk_frozen MM8.out.unit 4
    cases hmr with
    | false =>
      obtain ⟨rfl, rfl⟩ := HMR.out.2 rfl
      go_wp2_with fail
      go_meet
      exact MM8
    | true =>
      have HK1 := Lib.hid (HMR.out.1 rfl)
      go_wp2_with fail
      refine (pdu_tail_take.calls gt t mr t1 w _ ⟨MM8.out.tail, MM8.out.t0⟩ MM8.out.below HK1.out).mono ?_
      rintro e wt ⟨rfl, hI_, hb_, hk_⟩
      have MT := Lib.hid (MM8.out.take hI_ hb_ hk_)
      clear hI_ hb_ hk_
      clear cgt0 cgp4 zgp4
      have cgt0 := (blk_cell MT.out.tail 0).trans rfl
      have cgp4 : wt.cell? ⟨gp, 4, none⟩ = some (.int .u32 0) := (blk_cell MT.out.unit 4).trans rfl
      have zgp4 := blk_frozen MT.out.unit 4
      go_wp2_with fail
      go_meet
      exact Lib.hid (MT.out.setUnit 4 _)
  case rest =>
  have MA := Lib.hid hcut.out
  clear hcut MM8
  have cgh4 : wc.cell? ⟨gh, 4, none⟩ = some (.bool hps) := (blk_cell MA.out.sh 4).trans rfl
  go_upto_if 59 with (fail)
  clear cgh4
  go_cut [] (fun wx => Hid (MemH w wx gq gt gp gh (ts 0) (pduCells kind 0 n ps mr (.slice none 0 0) self ⟨#[]⟩) (shapeCells dt sq nn ls hps hmr sf)))
  case first =>
    have cgt0 := (blk_cell MA.out.tail 0).trans rfl
    have cgp3 : wc.cell? ⟨gp, 3, none⟩ = some (.int .u32 0) := (blk_cell MA.out.unit 3).trans rfl
    have zgp3 := blk_frozen MA.out.unit 3
    cases hps with
    | false =>
      obtain ⟨rfl, rfl⟩ := HPS.out.2 rfl
      go_wp2_with fail
      go_meet
      exact MA
    | true =>
      have HK1 := Lib.hid (HPS.out.1 rfl)
      go_wp2_with fail
      refine (pdu_tail_take.calls gt t1 ps (ts 0) w _ ⟨MA.out.tail, MA.out.t0⟩ MA.out.below HK1.out).mono ?_
      rintro e wt ⟨rfl, hI_, hb_, hk_⟩
      have MT := Lib.hid (MA.out.take hI_ hb_ hk_)
      clear hI_ hb_ hk_
      clear cgt0 cgp3 zgp3
      have cgt0 := (blk_cell MT.out.tail 0).trans rfl
      have cgp3 : wt.cell? ⟨gp, 3, none⟩ = some (.int .u32 0) := (blk_cell MT.out.unit 3).trans rfl
      have zgp3 := blk_frozen MT.out.unit 3
      go_wp2_with fail
      go_meet
      exact Lib.hid (MT.out.setUnit 3 _)
  case rest =>
  have MB := Lib.hid hcut.out
  clear hcut MA
  have cgh3 : wc.cell? ⟨gh, 3, none⟩ = some (.int .i64 ls) := (blk_cell MB.out.sh 3).trans rfl
  go_upto_if 66 with (fail)
  clear cgh3
  go_cut [9] (fun v9 wx => v9 = .int .i64 (N : Int) ∧ Hid (MemH w wx gq gt gp gh (ts 0) (pduCells kind 0 n ps mr (.slice none 0 0) self ⟨#[]⟩) (shapeCells dt sq nn ls hps hmr sf)))
  case first =>
    have cgt0 := (blk_cell MB.out.tail 0).trans rfl
    by_cases h1 : ls < 0
    · have e1 : (((ts 0).size : Int) / 4) = (N : Int) := by have := HLS.out; omega
      have E1 := Lib.hid e1
      have hb4 : (ts 0).size ≤ 1000000 := HTS0.out
      clear e1
      go_wp2_with fail
      go_meet
      exact ⟨by rw [← E1.out], MB⟩
    · have e1 : ls = (N : Int) := by have := HLS.out; omega
      have E1 := Lib.hid e1
      clear e1
      go_wp2_with fail
      go_meet
      exact ⟨by rw [E1.out], MB⟩
  case rest =>
  obtain ⟨rfl, hcut⟩ := hcut
  have MC := Lib.hid hcut.out
  clear hcut MB
  have hN1 : N ≤ 1000000 := HN1.out
  go_wp2_with fail
  go_loopw [74] (fun i wr => ∃ (j : Nat) (lv : Value), j ≤ N ∧ i = .int .i64 j ∧ Hid (MemH w wr gq gt gp gh (ts j) (pduCells kind 0 n ps mr lv self ⟨#[]⟩) (shapeCells dt sq nn ls hps hmr sf)) ∧ Hid (Kd.R (Kd.int .u32) 29 wr w.heap.size (fun _ => True) lv (l.reverse.take j))) (fun i _ => N - (intOf i).toNat)
  case atStart => exact ⟨0, .slice none 0 0, Nat.zero_le _, rfl, MC, Lib.hid (by rw [List.take_zero]; exact Kd.R_nil _ _ _ _ _)⟩
  case round =>
    obtain ⟨j, lv, hj, rfl, HM, HR⟩ := hrel
    clear MC
    by_cases hlt : j < N
    · have hjl : j < l.reverse.length := by rw [List.length_reverse, ← HN.out]; exact hlt
      obtain ⟨x, hx⟩ : ∃ x, l.reverse[j]? = some x := ⟨_, List.getElem?_eq_getElem hjl⟩
      have HX := Lib.hid hx
      have HJL := Lib.hid hjl
      have hlen : (l.reverse.take j).length ≤ 1000000 := by rw [List.length_take]; omega
      have HLEN := Lib.hid hlen
      clear hx hjl hlen
      have cc5 : wr.cell? ⟨gp, 5, none⟩ = some lv := (blk_cell HM.out.unit 5).trans rfl
      go_wp2_with fail
      clear cc5
      have MD := Lib.hid HM.out.drew
      have RD := Lib.hid (Kd.R_drew HR.out)
      clear HM HR
      refine start_ (n := 8) (S := fun w' => w'.cell? ⟨gp, 5, none⟩ = some lv) (ds := [7]) #[false, false, false, false, false, false, false, false] (by kernel_rfl) rfl rfl ((blk_cell MD.out.unit 5).trans rfl) (fun hHeld => ?_)
      refine with_tabW parse_tab parse_bits (fun HT_ HW_ => ?_)
      generalize wr.drew = w29 at MD RD hHeld ⊢
      refine pure_ (i := 0) (N := some 76) (v := ?_) (a' := ?_) #[true, false, false, false, false, false, false, false] rfl rfl (any_of HT_.out (by kernel_rfl)) (fun _ _ _ h => h) (Or.inl ⟨by rfl, ?_⟩) ?_ ?_
      rotate_left
      · intro w'
        go_simp
        with_reducible rfl
      rotate_left
      · simp only [Act.put, List.setIfInBounds_toArray, List.set_cons_zero, List.set_cons_succ, i64_w, i32_w]
        rfl
      refine pure_ (i := 2) (N := some 78) (v := ?_) (a' := ?_) #[true, false, true, false, false, false, false, false] rfl rfl (any_of HT_.out (by kernel_rfl)) (fun _ _ _ h => h) (Or.inl ⟨by rfl, ?_⟩) ?_ ?_
      rotate_left
      · intro w'
        go_simp
        with_reducible rfl
      rotate_left
      · simp only [Act.put, List.setIfInBounds_toArray, List.set_cons_zero, List.set_cons_succ, i64_w, i32_w]
        rfl
      refine take_ (i := 1) (N := some 77) (v := ?_) (a' := ?_) #[true, true, true, false, false, false, false, false] rfl rfl (take_ofW HT_.out HW_.out (by kernel_rfl)) (fun _ _ _ h => h) (Or.inl ⟨by rfl, ?_⟩) hHeld ?_ ?_
      rotate_left
      · intro w' s5
        go_simp
        with_reducible rfl
      rotate_left
      · simp only [Act.put, List.setIfInBounds_toArray, List.set_cons_zero, List.set_cons_succ, i64_w, i32_w]
        rfl
      refine one_ (i := 3) (N := some 79) #[true, true, true, true, false, false, false, false] rfl rfl (one_of HT_.out (by kernel_rfl)) (by decide) (fun K' hK => ?_)
      refine goes_ Tryd.func55 (by kernel_rfl) rfl #[.pointer (some ⟨gt, 0, none⟩)] (by rfl) rfl rfl (by (try simp only [List.map_toArray, List.map_cons, List.map_nil]); first | done | rfl) ?_
      refine (pdu_tail_take.calls gt (ts j) x (ts (j + 1)) w _ ⟨MD.out.tail, MD.out.t0⟩ MD.out.below (HTS.out j x HX.out)).mono ?_
      rintro e w30 ⟨rfl, hI_, hb_, hk_⟩
      refine ⟨_, rfl, ?_⟩
      have ME := Lib.hid (MD.out.take hI_ hb_ hk_)
      have RE := Lib.hid (Kd.R_keep (MD.out.off RD.out) hk_ (fun k hk => hk.2.1))
      clear hI_ hb_ hk_ MD RD
      refine hK.out _ _ ((blk_cell ME.out.unit 5).trans rfl) (fun hHeld => ?_)
      clear hK K'
      refine norm_ (a' := ?_) ?_ ?_
      rotate_left
      · show Act.put _ (some 79) _ = _
        simp only [Act.put, List.setIfInBounds_toArray, List.set_cons_zero, List.set_cons_succ, i64_w, i32_w]
        rfl
      refine one_ (i := 4) (N := some 80) #[true, true, true, true, true, false, false, false] rfl rfl (one_of HT_.out (by kernel_rfl)) (by decide) (fun K' hK => ?_)
      refine value_ (w1 := ?_) (v := ?_) (by rfl) rfl ?_ ?_
      rotate_left 2
      · go_simp
        constructor
        · rfl
        · rfl
      refine hK.out _ _ ((blk_cell (blk_alloc ME.out.unit _) 5).trans rfl) (fun hHeld => ?_)
      clear hK K'
      refine norm_ (a' := ?_) ?_ ?_
      rotate_left
      · show Act.put _ (some 80) _ = _
        simp only [Act.put, List.setIfInBounds_toArray, List.set_cons_zero, List.set_cons_succ, i64_w, i32_w]
        rfl
      refine one_ (i := 5) (N := some 81) #[true, true, true, true, true, true, false, false] rfl rfl (one_of HT_.out (by kernel_rfl)) (by decide) (fun K' hK => ?_)
      refine Kd.R_append_step (Kd.int .u32) (w0 := w) w.heap.size (by rfl) (.tmp 77) (.tmp 80) 30 29 (.int .u32 0) 4 rfl Tryd.underlying30 info29 rfl (by decide) (by omega) lv (l.reverse.take j) x [.int .u32 x] (fun _ => True) (fun _ => False) rfl rfl ?aP (fun _ hk => hk.elim) ?aF ?aO ?aB ?aS ?aL ?_
      (case aP => exact rfl)
      (case aB => exact ME.out.below)
      (case aF => exact (fun _ _ => trivial))
      (case aO => exact Kd.R_mono RE.out (fun _ _ => trivial))
      (case aS => exact ME.out.below.size)
      (case aL => have := HLEN.out; omega)
      intro v229 w31 ho hb hg hat
      have MF := Lib.hid (ME.out.grown hg hb RE.out)
      have ho2 : Kd.R (Kd.int .u32) 29 w31 w.heap.size (fun _ => True) v229 (l.reverse.take (j + 1)) := by
        rw [List.take_add_one, HX.out]
        exact ho
      have RF := Lib.hid ho2
      clear ho hb hg hat ho2 ME RE
      obtain ⟨Ao32, co32, eo32⟩ := Kd.R_slice RF.out
      obtain ⟨Ln, hLn⟩ : ∃ q, (List.take (j + 1) l.reverse).length = q := ⟨_, rfl⟩
      rw [hLn] at eo32
      clear hLn
      refine hK.out _ _ ((blk_cell MF.out.unit 5).trans rfl) (fun hHeld => ?_)
      clear hK K'
      refine norm_ (a' := ?_) ?_ ?_
      rotate_left
      · show Act.put _ (some 81) _ = _
        simp only [Act.put, List.setIfInBounds_toArray, List.set_cons_zero, List.set_cons_succ, i64_w, i32_w]
        rfl
      refine pure_ (i := 6) (N := some 82) (v := ?_) (a' := ?_) #[true, true, true, true, true, true, true, false] rfl rfl (any_of HT_.out (by kernel_rfl)) (fun _ _ _ h => h) (Or.inl ⟨by rfl, ?_⟩) ?_ ?_
      rotate_left
      · intro w'
        go_simp
        with_reducible rfl
      rotate_left
      · simp only [Act.put, List.setIfInBounds_toArray, List.set_cons_zero, List.set_cons_succ, i64_w, i32_w]
        rfl
      refine last_ (i := 7) (N := none) #[true, true, true, true, true, true, true, true] rfl rfl (one_of HT_.out (by kernel_rfl)) (by decide) (fun K' hK => ?_)
      have hs33 : w31.cell? ⟨gp, 5, none⟩ = some lv := (blk_cell MF.out.unit 5).trans rfl
      have hfs33 := blk_frozen MF.out.unit 5
      subst eo32
      refine skip_ (w1 := ?_) (by rfl) rfl ?_ ?_
      rotate_left
      · go_simp
        rfl
      refine hK.out _ _ ?_
      clear hK K'
      refine done_ (done_of HT_.out (by kernel_rfl)) ?_
      clear hs33 hfs33
      go_wp2_with fail
      go_roundw
      case rel => exact ⟨j + 1, _, by omega, by go_num, Lib.hid (MF.out.setUnit 5 _), Lib.hid (Kd.R_mono (Kd.R_far (p := ⟨gp, 5, none⟩) (MF.out.off RF.out) (fun _ hk => hk.2.2.1) _) (fun _ _ => trivial))⟩
      case measure => simp [intOf]; omega
    · have hjN : j = N := by omega
      have hfull : l.reverse.take j = l.reverse := List.take_of_length_le (by rw [List.length_reverse, ← HN.out]; omega)
      have hR : Kd.R (Kd.int .u32) 29 wr w.heap.size (offOurs gq gt gp gh) lv l.reverse := by
        rw [← hfull]
        exact HM.out.off HR.out
      have HR2 := Lib.hid hR
      clear hR hfull HR
      subst hjN
      have cc5 : wr.cell? ⟨gp, 5, none⟩ = some lv := (blk_cell HM.out.unit 5).trans rfl
      go_wp2_with fail
      clear cc5
      refine (seq_Num_58.calls K (offOurs gq gt gp gh) lv l.reverse l w wr HM.out.below HR2.out HREV.out).mono ?_
      rintro e w9 ⟨rfl, hr9, hb9, hk9⟩
      have MG := Lib.hid (HM.out.kept hk9 hb9)
      have RG := Lib.hid (Kd.R_mono hr9 (ok' := fun _ => True) (fun _ _ => trivial))
      clear hr9 hb9 hk9 HM HR2
      obtain ⟨Av, cv, ev⟩ := Kd.R_slice RG.out
      subst ev
      have cgh1 : w9.cell? ⟨gh, 1, none⟩ = some (.bool sq) := (blk_cell MG.out.sh 1).trans rfl
      go_upto_if 88 with (fail)
      clear cgh1
      go_cut [] (fun wx => Hid (MemH w wx gq gt gp gh t4 (pduCells kind sqv n ps mr (.slice Av l.length cv) self ⟨#[]⟩) (shapeCells dt sq nn ls hps hmr sf)) ∧ Hid (Kd.R (Kd.int .u32) 29 wx w.heap.size (fun _ => True) (.slice Av l.length cv) l))
      case first =>
        have cgt0 := (blk_cell MG.out.tail 0).trans rfl
        have cgp1 : w9.cell? ⟨gp, 1, none⟩ = some (.int .i64 0) := (blk_cell MG.out.unit 1).trans rfl
        have zgp1 := blk_frozen MG.out.unit 1
        cases sq with
        | false =>
          obtain ⟨rfl, rfl⟩ := HSQ.out.2 rfl
          go_wp2_with fail
          go_meet
          exact ⟨MG, RG⟩
        | true =>
          have HK1 := Lib.hid (HSQ.out.1 rfl)
          go_wp2_with fail
          refine (pdu_tail_take.calls gt (ts j) sqv t4 w _ ⟨MG.out.tail, MG.out.t0⟩ MG.out.below HK1.out).mono ?_
          rintro e wt ⟨rfl, hI_, hb_, hk_⟩
          have MT := Lib.hid (MG.out.take hI_ hb_ hk_)
          have RT := Lib.hid (Kd.R_mono (Kd.R_keep (MG.out.off RG.out) hk_ (fun k hk => hk.2.1)) (ok' := fun _ => True) (fun _ _ => trivial))
          clear hI_ hb_ hk_
          have hz0 : 0 ≤ sqv := HSQ0.out
          have hz1 : sqv < 4294967296 := HSQ1.out
          clear cgt0 cgp1 zgp1
          have cgt0 := (blk_cell MT.out.tail 0).trans rfl
          have cgp1 : wt.cell? ⟨gp, 1, none⟩ = some (.int .i64 0) := (blk_cell MT.out.unit 1).trans rfl
          have zgp1 := blk_frozen MT.out.unit 1
          go_wp2_with fail
          go_meet
          exact ⟨Lib.hid (MT.out.setUnit 1 _), Lib.hid (Kd.R_mono (Kd.R_far (p := ⟨gp, 1, none⟩) (MT.out.off RT.out) (fun _ hk => hk.2.2.1) _) (fun _ _ => trivial))⟩
      case rest =>
      have MI := hcut.1
      have RI := hcut.2
      clear hcut MG RG
      have cgt0 := (blk_cell MI.out.tail 0).trans rfl
      have cgp7 := (blk_cell MI.out.unit 7).trans rfl
      have zgp7 := blk_frozen MI.out.unit 7
      have hpt : pad ≤ t4.size := HPT.out
      have hts : t4.size ≤ 1000000 := HT4.out
      go_wp2_with fail
      have r1 : (0 : Int) ≤ (t4.size : Int) - (pad : Int) := by omega
      have r2 : (t4.size : Int) - (pad : Int) ≤ (t4.size : Int) := by omega
      have r3 : IntKind.i64.wrap ((t4.size : Int) - (pad : Int)) = (t4.size : Int) - (pad : Int) := by rw [IntKind.wrap_i64]; omega
      have r4 : ((t4.size : Int) - (pad : Int)).toNat = t4.size - pad := by omega
      go_still_tail 13, (by kernel_rfl)
      change wpList _ _ _ _ _ wc.drew
      have hdd : t4.extract 0 (t4.size - pad) = d := HD.out
      rw [hdd]
      clear hdd
      go_wp2_with fail
      have U9 : (wc.setCell ⟨gp, 7, none⟩ (.string d)).drew.heap[gp]? = some (.cells (pduCells kind sqv n ps mr (.slice Av l.length cv) self d) 32 (0, 0)) := by
        show (wc.setCell ⟨gp, 7, none⟩ (.string d)).heap[gp]? = _
        have := blk_set (w := wc) MI.out.unit 7 (.string d)
        simpa [pduCells] using this
      have R9 : (wc.setCell ⟨gp, 7, none⟩ (.string d)).drew.heap[gq]? = _ := blk_far (w := wc) (p := ⟨gp, 7, none⟩) MI.out.res MI.out.qp (.string d)
      have B9 : Below w.heap.size w (wc.setCell ⟨gp, 7, none⟩ (.string d)).drew := below_drew1 (MI.out.below.setCell (p := ⟨gp, 7, none⟩) MI.out.p0 (.string d))
      have L9 : Kd.R (Kd.int .u32) 29 (wc.setCell ⟨gp, 7, none⟩ (.string d)).drew w.heap.size (offOurs gq gt gp gh) (.slice Av l.length cv) l := Kd.R_drew (Kd.R_far (p := ⟨gp, 7, none⟩) (MI.out.off RI.out) (fun _ hk => hk.2.2.1) _)
      generalize (wc.setCell ⟨gp, 7, none⟩ (.string d)).drew = w10 at U9 R9 B9 L9 ⊢
      have HU9 := Lib.hid U9
      have HR9 := Lib.hid R9
      have HB9 := Lib.hid B9
      have HL9 := Lib.hid L9
      have HQP := Lib.hid MI.out.qp
      have HQ0 := Lib.hid MI.out.q0
      clear U9 R9 B9 L9 MI RI
      clear cgt0 cgp7 zgp7
      have cgp0 : w10.cell? ⟨gp, 0, none⟩ = some (.int .i64 kind) := (blk_cell HU9.out 0).trans rfl
      go_wp2_with fail
      clear cgp0
      obtain ⟨hA, hcv, hC9⟩ := Kd.R_reads' HL9.out
      refine (told_ok K gp kind sqv n ps mr Av cv l self d s w10 HU9.out hC9 hcv HC.out HBY.out).mono ?_
      rintro e w11 ⟨rfl, b11⟩
      have HU : Hid (w11.heap[gp]? = some (.cells #[.int .i64 kind, .int .i64 sqv, .int .u32 n, .int .u32 ps, .int .u32 mr, .slice Av l.length cv, .bool self, .string d] 32 (0, 0))) := Lib.hid (blk_below HU9.out b11)
      have HR := Lib.hid (blk_below HR9.out b11)
      have HB := Lib.hid (below_via b11 HB9.out)
      have HL := Lib.hid (Kd.R_below HL9.out b11)
      clear HU9 HR9 HB9 HL9 b11 hA hcv hC9
      have cgp0 := (blk_cell HU.out 0).trans rfl
      have cgp1 := (blk_cell HU.out 1).trans rfl
      have cgp2 := (blk_cell HU.out 2).trans rfl
      have cgp3 := (blk_cell HU.out 3).trans rfl
      have cgp4 := (blk_cell HU.out 4).trans rfl
      have cgp5 := (blk_cell HU.out 5).trans rfl
      have cgp6 := (blk_cell HU.out 6).trans rfl
      have cgp7 := (blk_cell HU.out 7).trans rfl
      have cgq0 := (blk_cell HR.out 0).trans rfl
      have zgq0 := blk_frozen HR.out 0
      have cgq1 := (blk_cell HR.out 1).trans rfl
      have zgq1 := blk_frozen HR.out 1
      have cgq2 := (blk_cell HR.out 2).trans rfl
      have zgq2 := blk_frozen HR.out 2
      have cgq3 := (blk_cell HR.out 3).trans rfl
      have zgq3 := blk_frozen HR.out 3
      have cgq4 := (blk_cell HR.out 4).trans rfl
      have zgq4 := blk_frozen HR.out 4
      have cgq5 := (blk_cell HR.out 5).trans rfl
      have zgq5 := blk_frozen HR.out 5
      have cgq6 := (blk_cell HR.out 6).trans rfl
      have zgq6 := blk_frozen HR.out 6
      have cgq7 := (blk_cell HR.out 7).trans rfl
      have zgq7 := blk_frozen HR.out 7
      go_wp2_with fail
      refine bodyPost_ret (results_ct rfl _ _ gq 32 #[.int .i64 kind, .int .i64 sqv, .int .u32 n, .int .u32 ps, .int .u32 mr, .slice Av l.length cv, .bool self, .string d] (0, 0) _ rfl (set8 HR.out _ _ _ _ _ _ _ _) Tryd.underlying32 rfl (by kernel_rfl)) rfl ?_
      exact ⟨_, rfl, Kd.R_mono (Kd.R_far (p := ⟨gq, 7, none⟩) (Kd.R_far (p := ⟨gq, 6, none⟩) (Kd.R_far (p := ⟨gq, 5, none⟩) (Kd.R_far (p := ⟨gq, 4, none⟩) (Kd.R_far (p := ⟨gq, 3, none⟩) (Kd.R_far (p := ⟨gq, 2, none⟩) (Kd.R_far (p := ⟨gq, 1, none⟩) (Kd.R_far (p := ⟨gq, 0, none⟩) HL.out (fun _ hk => hk.1) _) (fun _ hk => hk.1) _) (fun _ hk => hk.1) _) (fun _ hk => hk.1) _) (fun _ hk => hk.1) _) (fun _ hk => hk.1) _) (fun _ hk => hk.1) _) (fun _ hk => hk.1) _) (fun _ _ => trivial), bel8 HB.out HQ0.out _ _ _ _ _ _ _ _⟩
end Go.Proofs.YtjbnihaekgmhlaaDoor
namespace Go.Proofs.YtjbnihaekgmhlaaDoor
open Go.RowKit Pr Go.Proofs.YtjbnihaekgmhlaaDoorW.PrintWords Go.Proofs.YtjbnihaekgmhlaaDoorW.PrintMore
set_option linter.unusedSimpArgs false
set_option linter.unusedVariables false

def nfI (a0 : Int) : Int := 1 + (if sqB a0 = true then 1 else 0) + (if psB a0 = true then 1 else 0) + (if mrB a0 = true then 1 else 0) + max (lsI a0) 0
theorem fixed_in (a0 : Int) (h : 1 ≤ a0 ∧ a0 ≤ 15) : pdu_shape_fixed.f (mostI a0) (sqB a0) (nB a0) (lsI a0) (psB a0) (mrB a0) (sfB a0) true = some (nfI a0) := by
  rcases kinds15 h with rfl | rfl | rfl | rfl | rfl | rfl | rfl | rfl | rfl | rfl | rfl | rfl | rfl | rfl | rfl <;> decide +kernel
theorem nfI_bd (a0 : Int) (h : 1 ≤ a0 ∧ a0 ≤ 15) : 0 ≤ nfI a0 ∧ nfI a0 ≤ 10 := by
  rcases kinds15 h with rfl | rfl | rfl | rfl | rfl | rfl | rfl | rfl | rfl | rfl | rfl | rfl | rfl | rfl | rfl <;> decide +kernel
theorem lsI_neg {a0 : Int} (h : lsI a0 < 0) : a0 = 11 := by
  unfold lsI at h
  split at h
  · assumption
  · split at h <;> omega
set_option maxRecDepth 100000 in
theorem Parse_unit (a0 a1 a2 a3 a4 : Int) (l5 : List Int) (a6 : Bool) (a7 : ByteArray) (w : World) (hn : Num32 a2 a3 a4 l5) (hc : chkP a0 a1 a2 a3 a4 l5 a6 a7 = 0) :
    Calls Tryd.prog 23 #[.string ⟨(bytesP a0 a1 a2 a3 a4 l5 a6 a7).toArray⟩] w fun e w' => ∃ v : Value, e = .returned (.tuple #[.agg #[.int .i64 a0, .int .i64 a1, .int .u32 a2, .int .u32 a3, .int .u32 a4, v, .bool a6, .string a7], .int .i64 0]) ∧ Kd.R (Kd.int .u32) 29 w' w.heap.size (fun _ => True) v l5 ∧ Below w.heap.size w w' := by
  have m := may_of hn hc
  have hk := m.kind
  have hp4 := padN_lt a7.size
  have hdl := m.dlen
  have hll := m.len
  have hL := last_may m
  have hwl := wordsL_len a0 a1 a3 a4 l5
  have hsz : (⟨(bytesP a0 a1 a2 a3 a4 l5 a6 a7).toArray⟩ : ByteArray).size = a7.size + padN a7.size + 4 * ((wordsL a0 a1 a3 a4 l5).length + 1) := by
    rw [bytesP_base, baseW_size, List.length_append]
    rfl
  have hs1 : a1 % 4294967296 = a1 := by have := m.s0; have := m.s1; omega
  obtain ⟨Q, hQ⟩ : ∃ Q : List Int, (if sqB a0 = true then [a1 % 4294967296] else []) = Q := ⟨_, rfl⟩
  have hQl : Q.length ≤ 1 := by rw [← hQ]; split <;> simp
  have hw : wordsL a0 a1 a3 a4 l5 = Q ++ l5 ++ (if psB a0 = true then [a3] else []) ++ (if mrB a0 = true then [a4] else []) := by unfold wordsL; rw [hQ]
  have hwlen : (wordsL a0 a1 a3 a4 l5).length = Q.length + l5.length + (if psB a0 = true then [a3] else []).length + (if mrB a0 = true then [a4] else []).length := by rw [hw]; simp only [List.length_append]
  have hpsl : (if psB a0 = true then [a3] else []).length = if psB a0 = true then 1 else 0 := by split <;> rfl
  have hmrl : (if mrB a0 = true then [a4] else []).length = if mrB a0 = true then 1 else 0 := by split <;> rfl
  have hQlen : Q.length = if sqB a0 = true then 1 else 0 := by rw [← hQ]; split <;> rfl
  have tk := fun (ws : List Int) (x : Int) (h0 : 0 ≤ x) (h1 : x < 4294967296) (hl : ws.length ≤ 1000) => baseW_take a7 ws x h0 h1 (by omega) hl
  have hnf := nfI_bd a0 hk
  have hl5 : ∀ x ∈ l5, 0 ≤ x ∧ x < 4294967296 := fun x hx => by have := m.l x hx; omega
  refine Parse_any 4000 a0 a2 a4 a3 a1 a6 (padN a7.size) (mostI a0) (sqB a0) (nB a0) (lsI a0) (psB a0) (mrB a0) (sfB a0) l5 l5.length (fun j => baseW a7 (Q ++ l5.take (l5.length - j))) w ⟨(bytesP a0 a1 a2 a3 a4 l5 a6 a7).toArray⟩ (baseW a7 (wordsL a0 a1 a3 a4 l5)) (baseW a7 (Q ++ l5 ++ (if psB a0 = true then [a3] else []))) (baseW a7 []) a7 (lastW a0 a2 a6 (padN a7.size)) (nfI a0)
    (shape_in 3996 a0 hk) (by rw [hsz]; omega) (by rw [hsz]; unfold padN; omega) (by rw [hsz]; omega) (by rw [bytesP_base]; exact tk _ _ hL.1 hL.2 (by omega))
    (last_n a0 a2 a6 _ (by omega) (by omega) m.n0 m.n1 hp4) (last_self a0 a2 a6 _ (by omega) (by omega) m.n0 m.n1 hp4) (last_pad a0 a2 a6 _ (by omega) (by omega) m.n0 m.n1 hp4) (by omega) (by omega)
    (last_kind a0 a2 a6 _ (by omega) (by omega) m.n0 m.n1 hp4) (fixed_in a0 hk) hnf.1 hnf.2 ?_ ⟨fun h => ?_, fun h => ?_⟩ ⟨fun h => ?_, fun h => ?_⟩ rfl ?_ ?_ (by omega) ?_ ?_ ⟨fun h => ?_, fun h => ?_⟩ m.s0 (by have := m.s1; omega) ?_ ?_ ?_ (by rw [check_f 3996, hc]) (by rw [bytes_f 4000 a0 a1 a2 a3 a4 l5 a6 a7 (by omega) (by omega) (by omega), if_pos hc])
  · rw [hsz, hwlen, hpsl, hmrl, hQlen]
    unfold nfI
    have e1 : (((if sqB a0 = true then 1 else 0 : Nat)) : Int) = if sqB a0 = true then 1 else 0 := by split <;> rfl
    have e2 : (((if psB a0 = true then 1 else 0 : Nat)) : Int) = if psB a0 = true then 1 else 0 := by split <;> rfl
    have e3 : (((if mrB a0 = true then 1 else 0 : Nat)) : Int) = if mrB a0 = true then 1 else 0 := by split <;> rfl
    rw [← e1, ← e2, ← e3]
    rcases m.ls with ⟨q, _⟩ | q <;> omega
  · rw [hw, if_pos h]
    exact tk _ _ m.m0 (by have := m.m1; omega) (by simp only [List.length_append]; rw [hpsl]; split <;> omega)
  · refine ⟨m.mr h, ?_⟩
    rw [hw, h]
    simp
  · rw [if_pos h]
    have : Q ++ l5.take (l5.length - 0) = Q ++ l5 := by rw [Nat.sub_zero, List.take_length]
    simp only [this]
    exact tk _ _ m.p0 (by have := m.p1; omega) (by simp only [List.length_append]; omega)
  · refine ⟨m.ps h, ?_⟩
    have : Q ++ l5.take (l5.length - 0) = Q ++ l5 := by rw [Nat.sub_zero, List.take_length]
    simp only [this]
    rw [h]
    simp
  · rcases m.ls with ⟨q, _⟩ | q
    · left
      refine ⟨q, ?_⟩
      have h11 := lsI_neg q
      have z := m.data (by rw [h11]; rfl)
      have hq0 : Q.length = 0 := by rw [hQlen, h11]; rfl
      simp only [baseW_size, List.length_append, List.length_take]
      have : padN a7.size = 0 := by rw [z]; rfl
      omega
    · right
      exact ⟨by omega, q.symm⟩
  · simp only [baseW_size, List.length_append, List.length_take]
    omega
  · intro j x hx
    have hj : j < l5.length := by
      have := (List.getElem?_eq_some_iff.1 hx).1
      simpa using this
    rw [List.getElem?_reverse hj] at hx
    have hx2 : l5[l5.length - 1 - j]? = some x := hx
    obtain ⟨hi, hxi⟩ := List.getElem?_eq_some_iff.1 hx2
    have e : l5.take (l5.length - j) = l5.take (l5.length - (j + 1)) ++ [x] := by
      rw [show l5.length - j = (l5.length - (j + 1)) + 1 by omega, List.take_succ_eq_append_getElem (by omega)]
      congr 2
      rw [← hxi]
      congr 1
      omega
    have hxm : x ∈ l5 := by rw [← hxi]; exact List.getElem_mem hi
    simp only [e]
    rw [← List.append_assoc]
    exact tk _ _ (hl5 x hxm).1 (hl5 x hxm).2 (by simp only [List.length_append, List.length_take]; omega)
  · rw [rev_f 4000 l5.reverse (by rw [List.length_reverse]; omega) (by omega), List.reverse_reverse]
  · have e : Q ++ l5.take (l5.length - l5.length) = [] ++ [a1] := by rw [Nat.sub_self, List.take_zero, List.append_nil, ← hQ, if_pos h, hs1]; rfl
    simp only [e]
    exact tk [] a1 m.s0 (by have := m.s1; omega) (by simp)
  · refine ⟨m.sq h, ?_⟩
    have e : Q ++ l5.take (l5.length - l5.length) = [] := by rw [Nat.sub_self, List.take_zero, List.append_nil, ← hQ, h]; rfl
    simp only [e]
  · rw [baseW_size]
    omega
  · rw [baseW_size]
    simp only [List.length_nil]
    omega
  · have e : (baseW a7 []).size - padN a7.size = a7.size := by rw [baseW_size]; simp only [List.length_nil]; omega
    rw [e]
    apply ByteArray.ext
    rw [ByteArray.data_extract]
    apply Array.toList_inj.1
    rw [Array.toList_extract]
    unfold baseW baseL
    simp only [List.flatMap_nil, List.append_nil, List.extract_eq_take_drop, List.drop_zero, Nat.sub_zero]
    rw [List.take_left' (size_toList a7)]
/-- Whose bytes they are. -/
def ParseIs (s : ByteArray) (p : Int × Int × Int × Int × Int × List Int × Bool × ByteArray) : Prop :=
  Num32 p.2.2.1 p.2.2.2.1 p.2.2.2.2.1 p.2.2.2.2.2.1 ∧ chkP p.1 p.2.1 p.2.2.1 p.2.2.2.1 p.2.2.2.2.1 p.2.2.2.2.2.1 p.2.2.2.2.2.2.1 p.2.2.2.2.2.2.2 = 0 ∧ s = ⟨(bytesP p.1 p.2.1 p.2.2.1 p.2.2.2.1 p.2.2.2.2.1 p.2.2.2.2.2.1 p.2.2.2.2.2.2.1 p.2.2.2.2.2.2.2).toArray⟩
open Classical in
/-- pdu.Parse: what it gives of a unit's own bytes. -/
noncomputable def pdu_Parse.f (_ : Nat) (s : ByteArray) : Option (Int × Int × Int × Int × Int × List Int × Bool × ByteArray × Int) :=
  if h : ∃ p, ParseIs s p then some (h.choose.1, h.choose.2.1, h.choose.2.2.1, h.choose.2.2.2.1, h.choose.2.2.2.2.1, h.choose.2.2.2.2.2.1, h.choose.2.2.2.2.2.2.1, h.choose.2.2.2.2.2.2.2, 0) else none
theorem pdu_Parse.mono : ∀ a0 k, LeO (pdu_Parse.f k a0) (pdu_Parse.f (k + 1) a0) := fun _ _ => LeO.refl _
theorem parse_f (k : Nat) (a0 a1 a2 a3 a4 : Int) (l5 : List Int) (a6 : Bool) (a7 : ByteArray) (hn : Num32 a2 a3 a4 l5) (hc : chkP a0 a1 a2 a3 a4 l5 a6 a7 = 0) :
    pdu_Parse.f k ⟨(bytesP a0 a1 a2 a3 a4 l5 a6 a7).toArray⟩ = some (a0, a1, a2, a3, a4, l5, a6, a7, 0) := by
  have h : ∃ p, ParseIs ⟨(bytesP a0 a1 a2 a3 a4 l5 a6 a7).toArray⟩ p := ⟨(a0, a1, a2, a3, a4, l5, a6, a7), hn, hc, rfl⟩
  unfold pdu_Parse.f
  rw [dif_pos h]
  obtain ⟨h1, h2, h3⟩ := h.choose_spec
  have e : bytesP a0 a1 a2 a3 a4 l5 a6 a7 = bytesP h.choose.1 h.choose.2.1 h.choose.2.2.1 h.choose.2.2.2.1 h.choose.2.2.2.2.1 h.choose.2.2.2.2.2.1 h.choose.2.2.2.2.2.2.1 h.choose.2.2.2.2.2.2.2 := by
    have := congrArg (fun z : ByteArray => z.data.toList) h3
    simpa using this
  obtain ⟨e0, e1, e2, e3, e4, e5, e6, e7⟩ := bytesP_inj (may_of hn hc) (may_of h1 h2) e
  rw [← e0, ← e1, ← e2, ← e3, ← e4, ← e5, ← e6, ← e7]
theorem pdu_Parse.calls (k : Nat) (a0 : ByteArray) (r1 : Int) (r2 : Int) (r3 : Int) (r4 : Int) (r5 : Int) (r6 : List Int) (r7 : Bool) (r8 : ByteArray) (r9 : Int) (w : World) (h : pdu_Parse.f k a0 = some (r1, r2, r3, r4, r5, r6, r7, r8, r9)) :
    Calls Tryd.prog 23 #[.string a0] w fun e w' => ∃ v5_ : Value, e = .returned (.tuple #[.agg #[.int .i64 r1, .int .i64 r2, .int .u32 r3, .int .u32 r4, .int .u32 r5, v5_, .bool r7, .string r8], .int .i64 r9]) ∧ Kd.R (Kd.int .u32) 29 w' w.heap.size (fun _ => True) v5_ r6 ∧ Below w.heap.size w w' := by
  unfold pdu_Parse.f at h
  split at h
  · rename_i hp
    simp only [Option.some.injEq, Prod.mk.injEq] at h
    obtain ⟨rfl, rfl, rfl, rfl, rfl, rfl, rfl, rfl, rfl⟩ := h
    obtain ⟨h1, h2, h3⟩ := hp.choose_spec
    have := Parse_unit _ _ _ _ _ _ _ _ w h1 h2
    rw [← h3] at this
    exact this
  · simp at h
theorem w64p (x : Int) (h0 : 0 ≤ x) (h1 : x ≤ 1000000000000) : wrap64 x = x := by unfold wrap64; omega
theorem word_f (x : Int) (h0 : 0 ≤ x) (h1 : x < 4294967296) : polliwogref06_Word.f x = some ⟨(fourL x).toArray⟩ := by
  unfold polliwogref06_Word.f
  rw [Int.tdiv_eq_ediv_of_nonneg h0, Int.tdiv_eq_ediv_of_nonneg h0, Int.tdiv_eq_ediv_of_nonneg h0, Int.tmod_eq_emod_of_nonneg h0, w64p (x / 16777216) (by omega) (by omega), w64p (x / 65536) (by omega) (by omega), w64p (x / 256) (by omega) (by omega)]
  rw [Int.tmod_eq_emod_of_nonneg (by omega), Int.tmod_eq_emod_of_nonneg (by omega)]
  rw [show x / 65536 % 256 % 256 = x / 65536 % 256 by omega, show x / 256 % 256 % 256 = x / 256 % 256 by omega, show x % 256 % 256 = x % 256 by omega]
  rfl
theorem four_size (x : Int) : (⟨(fourL x).toArray⟩ : ByteArray).size = 4 := rfl
theorem base_snoc (a7 : ByteArray) (ws : List Int) (x : Int) : baseW a7 ws ++ ⟨(fourL x).toArray⟩ = baseW a7 (ws ++ [x]) := by
  apply ByteArray.ext
  rw [ByteArray.data_append]
  unfold baseW
  apply Array.toList_inj.1
  rw [Array.toList_append]
  simp
/-- Data, and j bytes 0. -/
def zb4 (d : ByteArray) (j : Nat) : ByteArray := ⟨(d.data.toList ++ List.replicate j 0).toArray⟩
theorem zb4_size (d : ByteArray) (j : Nat) : (zb4 d j).size = d.size + j := by
  unfold zb4
  rw [size_mk', List.length_append, List.length_replicate, size_toList]
theorem zb4_zero (d : ByteArray) : zb4 d 0 = d := by
  unfold zb4
  apply ByteArray.ext
  simp
theorem zb4_next (d : ByteArray) (j : Nat) : zb4 d j ++ strOfNums [0] = zb4 d (j + 1) := by
  apply ByteArray.ext
  rw [ByteArray.data_append]
  unfold zb4
  apply Array.toList_inj.1
  rw [Array.toList_append, List.replicate_succ', ← List.append_assoc]
  rfl
theorem zb4_base (d : ByteArray) : zb4 d (padN d.size) = baseW d [] := by
  unfold zb4 baseW baseL
  simp
section
variable (k : Nat) (a0 a1 a2 a3 a4 : Int) (l5 : List Int) (a6 : Bool) (a7 : ByteArray)
theorem rb_l0 (m : May a0 a1 a2 a3 a4 l5 a6 a7) : ∀ (d k j : Nat), j + d = padN a7.size → d + 30 < k →
    polliwogref06_Bytes.l0 k (zb4 a7 j) (j : Int) a0 a1 a2 a3 a4 l5 a6 a7 = polliwogref06_Bytes.j1 (k - d - 1) (baseW a7 (if sqB a0 = true then [a1] else [])) (padN a7.size : Int) a0 a1 a2 a3 a4 l5 a6 a7
  | 0, k, j, h, hk => by
    obtain ⟨k, rfl⟩ : ∃ q, k = q + 1 := ⟨k - 1, by omega⟩
    have hs := zb4_size a7 j
    have hd := m.dlen
    have hs1 := m.s1
    have hp := padN_lt a7.size
    obtain rfl : j = padN a7.size := by omega
    simp only [polliwogref06_Bytes.l0]
    rw [if_pos (by rw [hs]; unfold padN; omega), hasSQ_f k a0 (by omega), zb4_base]
    simp only [Option.bind_some]
    cases hq : sqB a0
    · simp
    · simp only [if_true]
      rw [word_f a1 m.s0 (by omega)]
      simp only [Option.bind_some]
      rw [four_size, if_pos (by rw [baseW_size]; simp only [List.length_nil]; omega), base_snoc]
      rfl
  | d + 1, k, j, h, hk => by
    obtain ⟨k, rfl⟩ : ∃ q, k = q + 1 := ⟨k - 1, by omega⟩
    have hs := zb4_size a7 j
    have hd := m.dlen
    have hp := padN_lt a7.size
    simp only [polliwogref06_Bytes.l0]
    rw [if_neg (by rw [hs]; unfold padN at h; omega)]
    simp only [Option.bind_some]
    have h1 : (strOfNums [0]).size = 1 := rfl
    rw [h1, if_pos (by omega), zb4_next, wrap_next j (by omega), rb_l0 m d k (j + 1) (by omega) (by omega)]
    congr 1
    omega
/-- Behind the list: a poll's number, a credit, the last word. -/
def tailW : List Int := (if psB a0 = true then [a3] else []) ++ (if mrB a0 = true then [a4] else []) ++ [lastW a0 a2 a6 (padN a7.size)]
theorem rb_j7 (m : May a0 a1 a2 a3 a4 l5 a6 a7) (ws : List Int) (hw : ws.length ≤ 1000) : polliwogref06_Bytes.j6 (k + 2) (baseW a7 ws) (padN a7.size : Int) a0 a1 a2 a3 a4 l5 a6 a7 = some (baseW a7 (ws ++ [lastW a0 a2 a6 (padN a7.size)])) := by
  have hk := m.kind
  have hn0 := m.n0
  have hn1 := m.n1
  have hd := m.dlen
  have hp := padN_lt a7.size
  have hL := last_may m
  have hls := lastW_sum a0 a2 a6 (padN a7.size) (by omega) (by omega) hn0 hn1 hp
  have e : ∀ b : Int, b = bitI a6 → polliwogref06_Bytes.j7 (k + 1) (baseW a7 ws) (padN a7.size : Int) b a0 a1 a2 a3 a4 l5 a6 a7 = some (baseW a7 (ws ++ [lastW a0 a2 a6 (padN a7.size)])) := by
    intro b hb
    have hb01 : 0 ≤ b ∧ b ≤ 1 := by rw [hb]; unfold bitI; split <;> omega
    simp only [polliwogref06_Bytes.j7]
    rw [w64p ((padN a7.size : Int) * 1073741824) (by omega) (by omega), w64p (b * 536870912) (by omega) (by omega), w64p ((padN a7.size : Int) * 1073741824 + b * 536870912) (by omega) (by omega), w64p (a0 * 16777216) (by omega) (by omega),
      w64p ((padN a7.size : Int) * 1073741824 + b * 536870912 + a0 * 16777216) (by omega) (by omega), w64p ((padN a7.size : Int) * 1073741824 + b * 536870912 + a0 * 16777216 + a2) (by omega) (by omega), hb, ← hls, word_f _ hL.1 hL.2]
    simp only [Option.bind_some]
    rw [four_size, if_pos (by rw [baseW_size]; omega), base_snoc]
  simp only [polliwogref06_Bytes.j6]
  cases a6
  · rw [if_neg (by simp)]
    exact e 0 rfl
  · rw [if_pos rfl]
    exact e 1 rfl
theorem rb_j5 (m : May a0 a1 a2 a3 a4 l5 a6 a7) (ws : List Int) (hw : ws.length ≤ 900) : polliwogref06_Bytes.j4 (k + 4) (baseW a7 ws) (padN a7.size : Int) a0 a1 a2 a3 a4 l5 a6 a7 = some (baseW a7 (ws ++ (if mrB a0 = true then [a4] else []) ++ [lastW a0 a2 a6 (padN a7.size)])) := by
  have hm1 := m.m1
  have hd := m.dlen
  have hp := padN_lt a7.size
  have e : polliwogref06_Bytes.j4 (k + 4) (baseW a7 ws) (padN a7.size : Int) a0 a1 a2 a3 a4 l5 a6 a7 = polliwogref06_Bytes.j5 (k + 3) (baseW a7 ws) (padN a7.size : Int) (mrB a0) a0 a1 a2 a3 a4 l5 a6 a7 := by
    simp only [polliwogref06_Bytes.j4]
    by_cases h : a0 = 11
    · simp [h, mrB]
    · by_cases h2 : a0 = 12
      · simp [h2, mrB]
      · have q : (a0 == 12) = false := by simpa using h2
        simp [h, h2, q, mrB]
  rw [e]
  simp only [polliwogref06_Bytes.j5]
  cases hq : mrB a0
  · simp only [Bool.false_eq_true, if_false, List.append_nil]
    exact rb_j7 k a0 a1 a2 a3 a4 l5 a6 a7 m ws (by omega)
  · simp only [if_true]
    rw [word_f a4 m.m0 (by omega)]
    simp only [Option.bind_some]
    rw [four_size, if_pos (by rw [baseW_size]; omega), base_snoc]
    exact rb_j7 k a0 a1 a2 a3 a4 l5 a6 a7 m (ws ++ [a4]) (by rw [List.length_append]; simp; omega)
theorem rb_j3 (m : May a0 a1 a2 a3 a4 l5 a6 a7) (ws : List Int) (hw : ws.length ≤ 800) : (if a0 = 10 then polliwogref06_Bytes.j3 (k + 5) (baseW a7 ws) (padN a7.size : Int) true a0 a1 a2 a3 a4 l5 a6 a7 else polliwogref06_Bytes.j3 (k + 5) (baseW a7 ws) (padN a7.size : Int) (a0 == 11) a0 a1 a2 a3 a4 l5 a6 a7) =
    some (baseW a7 (ws ++ (if psB a0 = true then [a3] else []) ++ (if mrB a0 = true then [a4] else []) ++ [lastW a0 a2 a6 (padN a7.size)])) := by
  have hp1 := m.p1
  have hd := m.dlen
  have hp := padN_lt a7.size
  have e : (if a0 = 10 then polliwogref06_Bytes.j3 (k + 5) (baseW a7 ws) (padN a7.size : Int) true a0 a1 a2 a3 a4 l5 a6 a7 else polliwogref06_Bytes.j3 (k + 5) (baseW a7 ws) (padN a7.size : Int) (a0 == 11) a0 a1 a2 a3 a4 l5 a6 a7) = polliwogref06_Bytes.j3 (k + 5) (baseW a7 ws) (padN a7.size : Int) (psB a0) a0 a1 a2 a3 a4 l5 a6 a7 := by
    by_cases h : a0 = 10
    · simp [h, psB]
    · by_cases h2 : a0 = 11
      · simp [h2, psB]
      · have q : (a0 == 11) = false := by simpa using h2
        simp [h, h2, q, psB]
  rw [e]
  simp only [polliwogref06_Bytes.j3]
  cases hq : psB a0
  · simp only [Bool.false_eq_true, if_false, List.append_nil]
    exact rb_j5 k a0 a1 a2 a3 a4 l5 a6 a7 m ws (by omega)
  · simp only [if_true]
    rw [word_f a3 m.p0 (by omega)]
    simp only [Option.bind_some]
    rw [four_size, if_pos (by rw [baseW_size]; omega), base_snoc]
    exact rb_j5 k a0 a1 a2 a3 a4 l5 a6 a7 m (ws ++ [a3]) (by rw [List.length_append]; simp; omega)
theorem rb_l1 (m : May a0 a1 a2 a3 a4 l5 a6 a7) (Q : List Int) (hQ : Q.length ≤ 1) : ∀ (d k i : Nat), i + d = l5.length → d + 6 ≤ k →
    polliwogref06_Bytes.l1 k (baseW a7 (Q ++ l5.take i)) (padN a7.size : Int) l5 (l5.length : Int) (i : Int) a0 a1 a2 a3 a4 l5 a6 a7 = some (baseW a7 (Q ++ l5 ++ (if psB a0 = true then [a3] else []) ++ (if mrB a0 = true then [a4] else []) ++ [lastW a0 a2 a6 (padN a7.size)]))
  | 0, k, i, h, hk => by
    obtain ⟨k, rfl⟩ : ∃ q, k = q + 6 := ⟨k - 6, by omega⟩
    have hlen := m.len
    simp only [polliwogref06_Bytes.l1]
    rw [if_neg (by omega), List.take_of_length_le (by omega)]
    exact rb_j3 k a0 a1 a2 a3 a4 l5 a6 a7 m (Q ++ l5) (by rw [List.length_append]; omega)
  | d + 1, k, i, h, hk => by
    obtain ⟨k, rfl⟩ : ∃ q, k = q + 1 := ⟨k - 1, by omega⟩
    have hi : i < l5.length := by omega
    have hlen := m.len
    have hd := m.dlen
    have hp := padN_lt a7.size
    have hx := m.l l5[i] (List.getElem_mem hi)
    simp only [polliwogref06_Bytes.l1]
    rw [if_pos (by omega), if_pos (by omega), if_pos (by omega), rd_at l5 i hi, word_f _ hx.1 (by omega)]
    simp only [Option.bind_some]
    rw [four_size, if_pos (by rw [baseW_size, List.length_append, List.length_take]; omega), base_snoc, wrap_next i (by omega), List.append_assoc, ← List.take_succ_eq_append_getElem hi]
    exact rb_l1 m Q hQ d k (i + 1) (by omega) (by omega)
end
theorem refBytes_f (k : Nat) (a0 a1 a2 a3 a4 : Int) (l5 : List Int) (a6 : Bool) (a7 : ByteArray) (hn : Num32 a2 a3 a4 l5) (hk : 3000 ≤ k) :
    polliwogref06_Bytes.f k a0 a1 a2 a3 a4 l5 a6 a7 = some (if chkP a0 a1 a2 a3 a4 l5 a6 a7 = 0 then ⟨(bytesP a0 a1 a2 a3 a4 l5 a6 a7).toArray⟩ else ⟨#[]⟩) := by
  unfold polliwogref06_Bytes.f
  rw [refCheck_f k a0 a1 a2 a3 a4 l5 a6 a7 hn (by omega)]
  simp only [Option.bind_some]
  by_cases h : chkP a0 a1 a2 a3 a4 l5 a6 a7 = 0
  · have m := may_of hn h
    have hp := padN_lt a7.size
    have hlen := m.len
    have hs1 : a1 % 4294967296 = a1 := by have := m.s0; have := m.s1; omega
    rw [if_pos h, if_pos h]
    have h0 := rb_l0 a0 a1 a2 a3 a4 l5 a6 a7 m (padN a7.size) k 0 (by omega) (by omega)
    rw [zb4_zero] at h0
    rw [show (0 : Int) = ((0 : Nat) : Int) from rfl, h0]
    obtain ⟨q, hq⟩ : ∃ q, k - padN a7.size - 1 = q + 1 := ⟨k - padN a7.size - 2, by omega⟩
    rw [hq]
    simp only [polliwogref06_Bytes.j1]
    have h1 := rb_l1 a0 a1 a2 a3 a4 l5 a6 a7 m (if sqB a0 = true then [a1] else []) (by split <;> simp) l5.length q 0 (by omega) (by omega)
    rw [List.take_zero, List.append_nil] at h1
    rw [show (0 : Int) = ((0 : Nat) : Int) from rfl, h1, bytesP_base]
    unfold wordsL
    rw [hs1]
  · rw [if_neg h, if_neg h]
end Go.Proofs.YtjbnihaekgmhlaaDoor
