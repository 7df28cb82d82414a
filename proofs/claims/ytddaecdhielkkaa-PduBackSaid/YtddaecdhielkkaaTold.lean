/- (*pdu.PDU).told, where the unit may be and its bytes are those. -/
import Derived.Test.YtddaecdhielkkaaBytw
namespace Go.Proofs.Ytddaecdhielkkaa
open Go.RowKit Pr Go.Proofs.YtddaecdhielkkaaW.PrintWords
set_option linter.unusedVariables false
set_option linter.unusedSimpArgs false

/-- A unit's cells. -/
def pduCells (a0 a1 a2 a3 a4 : Int) (v5 : Value) (a6 : Bool) (a7 : ByteArray) : Array Value := #[.int .i64 a0, .int .i64 a1, .int .u32 a2, .int .u32 a3, .int .u32 a4, v5, .bool a6, .string a7]

theorem empty_no (s : ByteArray) (h0 : 0 < s.size) : s.toList.isEmpty = false := by
  rw [ByteArray.toList_eq]
  have : s.data.toList.length = s.size := by rw [Array.length_toList]; rfl
  cases hq : s.data.toList with
  | nil => rw [hq] at this; simp at this; omega
  | cons => rfl

set_option maxHeartbeats 4000000 in
set_option maxRecDepth 1000000 in
theorem told_ok (k : Nat) (g : Nat) (a0 a1 a2 a3 a4 : Int) (A5 : Option Addr) (c5 : Nat) (l5 : List Int) (a6 : Bool) (a7 s : ByteArray) (w : World)
    (hg : w.heap[g]? = some (.cells (pduCells a0 a1 a2 a3 a4 (.slice A5 l5.length c5) a6 a7) 36 (0, 0)))
    (hr : Kd.C (Kd.int .u32) w A5 l5.length l5) (hcap : l5.length ≤ c5) (hc : pdu_PDU_Check.f k a0 a1 a2 a3 a4 l5 a6 a7 = some 0) (hb : pdu_PDU_Bytes.f k a0 a1 a2 a3 a4 l5 a6 a7 = some s) :
    Calls Try.prog 56 #[.pointer (some ⟨g, 0, none⟩), .string s] w fun e w' => e = .returned (.int .i64 0) ∧ Below w.heap.size w w' := by
  have HC := Lib.hid hc
  have HR := Lib.hid hr
  have HBy := Lib.hid hb
  clear hc hr hb
  have f0 : w.cell? ⟨g, 0, none⟩ = some (.int .i64 a0) := (blk_cell hg 0).trans rfl
  have f1 : w.cell? ⟨g, 1, none⟩ = some (.int .i64 a1) := (blk_cell hg 1).trans rfl
  have f2 : w.cell? ⟨g, 2, none⟩ = some (.int .u32 a2) := (blk_cell hg 2).trans rfl
  have f3 : w.cell? ⟨g, 3, none⟩ = some (.int .u32 a3) := (blk_cell hg 3).trans rfl
  have f4 : w.cell? ⟨g, 4, none⟩ = some (.int .u32 a4) := (blk_cell hg 4).trans rfl
  have f5 : w.cell? ⟨g, 5, none⟩ = some (.slice A5 l5.length c5) := (blk_cell hg 5).trans rfl
  have f6 : w.cell? ⟨g, 6, none⟩ = some (.bool a6) := (blk_cell hg 6).trans rfl
  have f7 : w.cell? ⟨g, 7, none⟩ = some (.string a7) := (blk_cell hg 7).trans rfl
  have HG := Lib.hid hg
  clear hg
  go_enter Try.func56, Try.ntmps56
  go_wp2_with fail
  refine (pdu_PDU_Check.calls k a0 a1 a2 a3 a4 A5 c5 l5 a6 a7 0 _ HR.out hcap HC.out).mono ?_
  rintro e w1 ⟨rfl, b1⟩
  have B1 := blk_below HG.out b1
  have d0 : w1.cell? ⟨g, 0, none⟩ = some (.int .i64 a0) := (blk_cell B1 0).trans rfl
  have d1 : w1.cell? ⟨g, 1, none⟩ = some (.int .i64 a1) := (blk_cell B1 1).trans rfl
  have d2 : w1.cell? ⟨g, 2, none⟩ = some (.int .u32 a2) := (blk_cell B1 2).trans rfl
  have d3 : w1.cell? ⟨g, 3, none⟩ = some (.int .u32 a3) := (blk_cell B1 3).trans rfl
  have d4 : w1.cell? ⟨g, 4, none⟩ = some (.int .u32 a4) := (blk_cell B1 4).trans rfl
  have d5 : w1.cell? ⟨g, 5, none⟩ = some (.slice A5 l5.length c5) := (blk_cell B1 5).trans rfl
  have d6 : w1.cell? ⟨g, 6, none⟩ = some (.bool a6) := (blk_cell B1 6).trans rfl
  have d7 : w1.cell? ⟨g, 7, none⟩ = some (.string a7) := (blk_cell B1 7).trans rfl
  clear f0 f1 f2 f3 f4 f5 f6 f7
  go_wp2_with fail
  refine (pdu_PDU_Bytes.calls k a0 a1 a2 a3 a4 A5 c5 l5 a6 a7 s _ (Kd.C_below HR.out b1) hcap HBy.out).mono ?_
  rintro e w2 ⟨rfl, b2⟩
  clear d0 d1 d2 d3 d4 d5 d6 d7
  go_wp2
  go_ret
  exact ⟨rfl, b1.trans (b2.mono b1.size)⟩
end Go.Proofs.Ytddaecdhielkkaa
