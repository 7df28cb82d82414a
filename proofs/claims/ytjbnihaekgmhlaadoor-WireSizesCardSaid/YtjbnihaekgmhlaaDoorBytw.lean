/- pdu.PDU.Bytes at this translation: its walk. -/
import Derived.Test.YtjbnihaekgmhlaaDoorChkc
import Derived.Test.YtjbnihaekgmhlaaDoorF48
import Derived.Test.YtjbnihaekgmhlaaDoorFs
import Derived.Test.YtjbnihaekgmhlaaDoorBld
import Derived.WalkKit
import Derived.Lib.Hide
import Derived.Lib.BufferKept
import Derived.Lib.AppendIntMem
import Derived.Deep.RegionHeld3
import Derived.Deep.DrawnRows
namespace Go.Proofs.YtjbnihaekgmhlaaDoor
open Go.RowKit Pr Go.Proofs.YtjbnihaekgmhlaaDoorW.PrintWords
set_option linter.unusedVariables false
set_option linter.unusedSimpArgs false
attribute [local go_sem ↓] Go.wp_at_zero Go.wp_at_succ

/-- A number's four bytes, the highest first. -/
def fourL (x : Int) : List UInt8 := [UInt8.ofNat (x / 16777216 % 256).toNat, UInt8.ofNat (x / 65536 % 256).toNat, UInt8.ofNat (x / 256 % 256).toNat, UInt8.ofNat (x % 256).toNat]
def padN (n : Nat) : Nat := (4 - n % 4) % 4
def bitI (b : Bool) : Int := if b = true then 1 else 0
/-- The last word. -/
def lastW (kind n : Int) (self : Bool) (pad : Nat) : Int := Go.bits .or .u32 (Go.bits .or .u32 (Go.bits .or .u32 (IntKind.u32.wrap (IntKind.u32.wrap (pad : Int) * 1073741824)) (IntKind.u32.wrap (bitI self * 536870912))) (IntKind.u32.wrap (IntKind.u32.wrap kind * 16777216))) n
def bytesL (kind n : Int) (self : Bool) (data : List UInt8) (ws : List Int) : List UInt8 :=
  data ++ (List.replicate (padN data.length) 0 ++ (ws.flatMap fourL ++ fourL (lastW kind n self (padN data.length))))
theorem four_any (x : Int) (w : World) : Calls Tryd.prog 49 #[.int .u32 x] w fun e w' => e = .returned (.string ⟨(fourL x).toArray⟩) ∧ Below w.heap.size w w' :=
  pdu_four.calls x _ w rfl
theorem bit_any (b : Bool) (w : World) : Calls Tryd.prog 50 #[.bool b] w fun e w' => e = .returned (.int .u32 (bitI b)) ∧ ∃ n, w' = w.drewN n :=
  (pdu_bit.calls b (bitI b) w (by cases b <;> rfl)).mono fun _ _ ⟨he, hd⟩ => ⟨he, hd.out⟩
theorem rep_any (c : Nat) (w : World) (hc : c ≤ 1000) : Calls Tryd.prog 47 #[.string ⟨#[0]⟩, .int .i64 c] w fun e w' => e = .returned (.string ⟨(List.replicate c (0 : UInt8)).toArray⟩) ∧ Below w.heap.size w w' := by
  refine (Tryd.strings_Repeat ⟨#[0]⟩ c w (by omega) (by show 1 * c ≤ _; omega)).mono ?_
  rintro e w' ⟨rfl, hb⟩
  refine ⟨?_, hb⟩
  have : ∀ c, Lib.repeatL ([0] : List UInt8) c = List.replicate c 0 := by
    intro c
    induction c with
    | zero => rfl
    | succ c ih => simp [Lib.repeatL, ih, List.replicate_succ] 
  rw [show (⟨#[0]⟩ : ByteArray).data.toList = [0] from rfl, this]
theorem row_kept {w w1 : World} {b : Nat} {base : Nat} {v : Value} {xs : List Int} (h : Kd.R (Kd.int .u32) 25 w base (fun _ => True) v xs) (hk : Lib.OthersKept 5 (some b) w w1) (hb : ∃ cs t fz, w.heap[b]? = some (.cells cs t fz) ∧ t ≠ 25) : Kd.R (Kd.int .u32) 25 w1 base (fun _ => True) v xs := by
  refine Kd.R_mono (Kd.R_move (Kd.R_bound h) ?_) (fun _ _ => trivial)
  rintro k ⟨_, _, _, q, hq, cells, hc⟩
  have hq' : q = 25 := by
    have : q ∈ [25] := hq
    simpa using this
  subst hq'
  rw [hc]
  refine hk k _ hc ?_ ?_
  · intro he
    have : k = b := by simpa using he
    subst this
    obtain ⟨cs, t, fz, h1, h2⟩ := hb
    rw [h1] at hc
    simp at hc
    exact h2 hc.2.1
  · intro c fz he
    simp at he
theorem bld_typed {B b : Nat} {bs : List Value} {w : World} (h : Lib.IsBuilderF 90 5 B b bs w) : ∃ cs t fz, w.heap[b]? = some (.cells cs t fz) ∧ t ≠ 25 := by
  rcases h with h | h
  · obtain ⟨_, v, hbk, _⟩ := h
    exact ⟨_, _, _, hbk, by decide⟩
  · obtain ⟨_, v, hbk, _⟩ := h
    exact ⟨_, _, _, hbk, by decide⟩

theorem cell_keep {W W1 : World} {p : Addr} {v : Value} (hb : Below W.heap.size W W1) (h : W.cell? p = some v) : W1.cell? p = some v := by
  have hl := World.block_lt_of_cell? W p h
  unfold World.cell? at h ⊢
  rw [hb.block _ hl]
  exact h

theorem bld_below {T e : TypeId} {B b : Nat} {bs : List Value} {W W1 : World} (h : Lib.IsBuilderF T e B b bs W) (hb : Below W.heap.size W W1) : Lib.IsBuilderF T e B b bs W1 := by
  have one : ∀ p, Lib.BuilderAtF T e B b p bs W → Lib.BuilderAtF T e B b p bs W1 := by
    intro p h
    have hlt := h.lt
    obtain ⟨hB, v, hv, hown, hne⟩ := h
    exact ⟨hB, v, (hb.block b hlt).trans hv, hown.kept (row := none) ⟨hb.os, hb.tape, hb.output, hb.size, fun k hk _ => hb.block k hk⟩ (Classical.em _), hne⟩
  exact h.elim (fun x => .inl (one _ x)) (fun x => .inr (one _ x))
theorem below_drew_alloc {W W1 : World} {o : Obj} (hb : Below (W.alloc o).drew.heap.size (W.alloc o).drew W1) : Below W.heap.size W W1 :=
  (below_drew1 (below_alloc (Below.refl _ _) o)).trans (hb.mono (by simp))
theorem rep_le (a : ByteArray) (n : Nat) (h : a.size ≤ 1000000) (hn : n ≤ 3) : ([] : List Value).length + (a ++ ⟨Array.replicate n (0 : UInt8)⟩ : ByteArray).size ≤ 140737488355328 := by
  rw [ByteArray.size_append]
  show 0 + (a.size + (Array.replicate n (0 : UInt8)).size) ≤ _
  rw [Array.size_replicate]
  omega
theorem rep_cells (a : ByteArray) (n : Nat) : ([] : List Value) ++ Lib.strCells (a ++ ⟨Array.replicate n (0 : UInt8)⟩) = Lib.byteCells (a.data.toList ++ List.replicate n 0) := by
  obtain ⟨a⟩ := a
  rw [ByteArray.mk_append_mk, List.nil_append, ← Lib.strCells_toArray]
  congr 2
theorem below_via {a W c : World} (hb : Below W.heap.size W c) (h : Below a.heap.size a W) : Below a.heap.size a c := h.trans (hb.mono h.size)
theorem four_le {n : Nat} (h : n ≤ 1000000 + 3 + 4 * 1000000) (x : Int) : n + (⟨(fourL x).toArray⟩ : ByteArray).size ≤ 140737488355328 := by
  have h4 : (⟨(fourL x).toArray⟩ : ByteArray).size = 4 := rfl
  omega
theorem four_cells (l : List UInt8) (x : Int) : Lib.byteCells l ++ Lib.strCells ⟨(fourL x).toArray⟩ = Lib.byteCells (l ++ fourL x) := by
  rw [Lib.strCells_toArray, Lib.byteCells_append]
theorem snoc_cells (l : List UInt8) (ws : List Int) (k : Nat) (h : k < ws.length) : Lib.byteCells (l ++ (ws.take (k + 1)).flatMap fourL) = Lib.byteCells (l ++ (ws.take k).flatMap fourL) ++ Lib.strCells ⟨(fourL ws[k]).toArray⟩ := by
  rw [List.take_succ_eq_append_getElem h, List.flatMap_append, ← List.append_assoc, Lib.byteCells_append]
  simp [Lib.strCells_toArray]
theorem fourL_len (x : Int) : (fourL x).length = 4 := rfl
theorem flat_len (ws : List Int) : (ws.flatMap fourL).length = 4 * ws.length := by
  induction ws with
  | nil => rfl
  | cons x ws ih => simp [fourL_len, ih]; omega
theorem cells_u32 (A0 : Option Addr) (l0 : List Int) (w : World) (hr0 : Kd.C (Kd.int .u32) w A0 l0.length l0) :
    0 < l0.length → ∃ ad, A0 = some ad ∧ ∀ j, j < l0.length → w.cell? (ad.add j) = some (.int .u32 (l0.getD j 0)) := (cells_of A0 l0 w hr0).2

set_option maxHeartbeats 8000000 in
set_option maxRecDepth 1000000 in
theorem Bytes_ok (k : Nat) (a0 a1 a2 a3 a4 : Int) (A5 : Option Addr) (c5 : Nat) (l5 : List Int) (a6 : Bool) (a7 : ByteArray) (ws : List Int) (w : World) (hr : Kd.C (Kd.int .u32) w A5 l5.length l5) (hcap : l5.length ≤ c5)
    (hc : pdu_PDU_Check.f k a0 a1 a2 a3 a4 l5 a6 a7 = some 0) (hw : pdu_PDU_words.f k a0 a1 a2 a3 a4 l5 a6 a7 = some ws) (hs : a7.size ≤ 1000000) (hl : ws.length ≤ 1000000) :
    Calls Tryd.prog 20 #[.agg #[.int .i64 a0, .int .i64 a1, .int .u32 a2, .int .u32 a3, .int .u32 a4, .slice A5 l5.length c5, .bool a6, .string a7]] w fun e w' => e = .returned (.string ⟨(bytesL a0 a2 a6 a7.data.toList ws).toArray⟩) ∧ Below w.heap.size w w' := by
  have HC := Lib.hid hc
  have HW := Lib.hid hw
  have HR := Lib.hid hr
  clear hc hw hr
  go_enter Tryd.func20, Tryd.ntmps20
  go_wp2_with fail
  refine (pdu_PDU_Check.calls k a0 a1 a2 a3 a4 A5 c5 l5 a6 a7 0 _ (Kd.C_below HR.out (below_alloc (Below.refl _ _) _)) hcap HC.out).mono ?_
  rintro e w1 ⟨rfl, hb1⟩
  have B1 := blk_below (blk_new w _) hb1
  have D1 : Below w.heap.size w w1 := (below_alloc (Below.refl _ _) _).trans (hb1.mono (by simp))
  clear hb1
  have d0 : w1.cell? ⟨w.heap.size, 0, none⟩ = some (.int .i64 a0) := (blk_cell B1 0).trans rfl
  have d7 : w1.cell? ⟨w.heap.size, 7, none⟩ = some (.string a7) := (blk_cell B1 7).trans rfl
  have B2 := blk_alloc B1 (.cells #[.pointer none, .slice none 0 0] 90)
  have e7 : (w1.alloc (.cells #[.pointer none, .slice none 0 0] 90)).cell? ⟨w.heap.size, 7, none⟩ = some (.string a7) := (blk_cell B2 7).trans rfl
  have P1 : (0 : Int) ≤ (a7.size : Int) % 4 := by omega
  go_wp2_with fail
  have ep : ((4 - (a7.size : Int) % 4) % 4) = ((padN a7.size : Nat) : Int) := by unfold padN; omega
  rw [ep]
  have hp : padN a7.size ≤ 3 := by unfold padN; omega
  have hp2 : ¬ (9223372036854775807 < a7.size + padN a7.size) := by omega
  have hI1 : Lib.IsBuilderF 90 5 w1.heap.size w1.heap.size [] (w1.alloc (.cells #[.pointer none, .slice none 0 0] 90)) := Lib.IsBuilderF.of (Lib.fresh_isBuilder 90 5 w1)
  go_region_held3 (fun w' => w'.cell? ⟨w.heap.size, 7, none⟩ = some (.string a7)) (first | assumption | go_keep)
    (first
      | (go_at_call 47; refine (rep_any (padN a7.size) _ (by omega)).mono ?_; rintro e w2 ⟨rfl, hb2⟩; have e7b : w2.cell? ⟨w.heap.size, 7, none⟩ = some (.string a7) := cell_keep hb2 (by assumption); have hI2 := bld_below (by exact hI1) hb2; have D2 := below_drew_alloc hb2)
      | (go_at_call 46; refine (Bld.WriteString w1.heap.size w1.heap.size [] _ _ hI2 (rep_le _ _ hs hp) D2.size).mono ?_; rintro e w3 ⟨rfl, h3, b3, k3⟩; have e7c : w3.cell? ⟨w.heap.size, 7, none⟩ = some (.string a7) := (b3.cell (blk_lt B1)).trans e7b))
  rw [rep_cells] at h3
  have D3 : Below w1.heap.size w1 w3 := D2.trans b3
  have B3 := (D3.block _ (blk_lt B1)).trans B1
  have f0 : w3.cell? ⟨w.heap.size, 0, none⟩ = some (.int .i64 a0) := (blk_cell B3 0).trans rfl
  have f1 : w3.cell? ⟨w.heap.size, 1, none⟩ = some (.int .i64 a1) := (blk_cell B3 1).trans rfl
  have f2 : w3.cell? ⟨w.heap.size, 2, none⟩ = some (.int .u32 a2) := (blk_cell B3 2).trans rfl
  have f3 : w3.cell? ⟨w.heap.size, 3, none⟩ = some (.int .u32 a3) := (blk_cell B3 3).trans rfl
  have f4 : w3.cell? ⟨w.heap.size, 4, none⟩ = some (.int .u32 a4) := (blk_cell B3 4).trans rfl
  have f5 : w3.cell? ⟨w.heap.size, 5, none⟩ = some (.slice A5 l5.length c5) := (blk_cell B3 5).trans rfl
  have f6 : w3.cell? ⟨w.heap.size, 6, none⟩ = some (.bool a6) := (blk_cell B3 6).trans rfl
  have f7 : w3.cell? ⟨w.heap.size, 7, none⟩ = some (.string a7) := (blk_cell B3 7).trans rfl
  clear hI1 hI2 hb2 b3 k3 D2 e7 e7b e7c B2 d0 d7
  go_wp2_with fail
  refine (pdu_PDU_words.calls k a0 a1 a2 a3 a4 A5 c5 l5 a6 a7 ws _ (Kd.C_below HR.out (D1.trans (D3.mono D1.size))) hcap HW.out).mono ?_
  rintro e w4 ⟨v, rfl, hR, b4⟩
  have hbz : ∃ b, w1.heap.size = b := ⟨_, rfl⟩
  obtain ⟨A6, c6, rfl, hc6, hR6⟩ := Kd.R_reads hR
  have D4 : Below w1.heap.size w1 w4 := D3.trans (b4.mono D3.size)
  have HR4 := Lib.hid hR
  have h4 : Lib.IsBuilderF 90 5 w1.heap.size w1.heap.size (Lib.byteCells (a7.data.toList ++ List.replicate (padN a7.size) 0)) w4 := bld_below (.inr h3) b4
  have H4 := Lib.hid h4
  have DD4 := Lib.hid D4
  clear hR hR6 h3 h4 b4 D3 B3 f0 f1 f2 f3 f4 f5 f6 f7
  obtain ⟨N, hN⟩ : ∃ N, ws.length = N := ⟨_, rfl⟩
  rw [hN]
  rw [hN] at hl hc6
  have HN := Lib.hid hN
  clear hN
  go_wp2
  go_loopw [25] (fun i wr => ∃ k : Nat, k ≤ N ∧ i = .int .i64 k ∧ Hid (Lib.IsBuilderF 90 5 w1.heap.size w1.heap.size (Lib.byteCells (a7.data.toList ++ List.replicate (padN a7.size) 0 ++ (ws.take k).flatMap fourL)) wr) ∧ Hid (Below w1.heap.size w1 wr) ∧ Hid (Kd.R (Kd.int .u32) 25 wr w3.heap.size (fun _ => True) (.slice A6 ws.length c6) ws)) (fun i _ => N - (intOf i).toNat)
  case atStart => exact ⟨0, Nat.zero_le _, rfl, Lib.hid (by simpa using H4.out), DD4, HR4⟩
  case round =>
    obtain ⟨k, hk, rfl, HI, HD, HK⟩ := hrel
    by_cases hlt : k < N
    · have hlw : k < ws.length := by have := HN.out; omega
      obtain ⟨A7, c7, hv, hc7, hC⟩ := Kd.R_reads HK.out
      obtain ⟨rfl, rfl⟩ : A6 = A7 ∧ c6 = c7 := by simpa using hv
      obtain ⟨ad, rfl, hcell⟩ := cells_u32 _ _ _ hC (by omega)
      have hx := hcell k hlw
      have hg : ws.getD k 0 = ws[k] := by rw [List.getD_eq_getElem?_getD, List.getElem?_eq_getElem hlw]; rfl
      rw [hg] at hx
      obtain ⟨x, hxe⟩ : ∃ x, ws[k] = x := ⟨_, rfl⟩
      rw [hxe] at hx
      have HX := Lib.hid hxe
      clear hxe hg hcell hC hv hc7
      have hlen : (Lib.byteCells (a7.data.toList ++ List.replicate (padN a7.size) 0 ++ (ws.take k).flatMap fourL)).length ≤ 1000000 + 3 + 4 * 1000000 := by
        rw [Lib.byteCells_length, List.length_append, List.length_append, List.length_replicate, flat_len, List.length_take, Array.length_toList]
        have : a7.data.size = a7.size := rfl
        omega
      have HLEN := Lib.hid hlen
      clear hlen
      have hsz5 := HD.out.size
      go_wp2_with fail
      refine (four_any _ _).mono ?_
      rintro e w5 ⟨rfl, b5⟩
      go_wp2_with fail
      refine (Bld.WriteString w1.heap.size w1.heap.size _ _ _ (bld_below HI.out b5) (by have := HLEN.out; have h4 : (⟨(fourL x).toArray⟩ : ByteArray).size = 4 := rfl; omega) (Nat.le_trans hsz5 b5.size)).mono ?_
      rintro e w6 ⟨rfl, h6, b6, k6⟩
      go_wp2
      go_roundw
      case rel => exact ⟨k + 1, by omega, by go_num, Lib.hid (by rw [snoc_cells _ _ _ hlw, HX.out]; exact .inr h6), Lib.hid ((HD.out.trans (b5.mono hsz5)).trans b6), Lib.hid (row_kept (Kd.R_below HK.out b5) k6 (bld_typed (bld_below HI.out b5)))⟩
      case measure => simp [intOf]; omega
    · obtain rfl : k = N := by omega
      have hfull : ws.take k = ws := List.take_of_length_le (by have := HN.out; omega)
      have hI : Lib.IsBuilderF 90 5 w1.heap.size w1.heap.size (Lib.byteCells (a7.data.toList ++ List.replicate (padN a7.size) 0 ++ ws.flatMap fourL)) wr := by have := HI.out; rw [hfull] at this; exact this
      have HI2 := Lib.hid hI
      clear HI hI hfull HK
      have B5 := (HD.out.block _ (blk_lt B1)).trans B1
      have f0 : wr.cell? ⟨w.heap.size, 0, none⟩ = some (.int .i64 a0) := (blk_cell B5 0).trans rfl
      have f2 : wr.cell? ⟨w.heap.size, 2, none⟩ = some (.int .u32 a2) := (blk_cell B5 2).trans rfl
      have f6 : wr.cell? ⟨w.heap.size, 6, none⟩ = some (.bool a6) := (blk_cell B5 6).trans rfl
      clear B5
      have hlen : (Lib.byteCells (a7.data.toList ++ List.replicate (padN a7.size) 0 ++ ws.flatMap fourL)).length ≤ 1000000 + 3 + 4 * 1000000 := by
        rw [Lib.byteCells_length, List.length_append, List.length_append, List.length_replicate, flat_len, Array.length_toList, HN.out]
        have : a7.data.size = a7.size := rfl
        omega
      have HLEN := Lib.hid hlen
      clear hlen
      have hsz5 := HD.out.size
      have HD' := HD.out
      go_wp2_with fail
      go_region_held3 (fun w' => w'.cell? ⟨w.heap.size, 0, none⟩ = some (.int .i64 a0) ∧ w'.cell? ⟨w.heap.size, 2, none⟩ = some (.int .u32 a2) ∧ w'.cell? ⟨w.heap.size, 6, none⟩ = some (.bool a6)) (first | assumption | go_keep)
        (first
          | (go_at_call 50; refine (bit_any _ _).mono ?_; rintro e w5 ⟨rfl, nq, rfl⟩)
          | (go_at_call 49; refine (four_any _ _).mono ?_; rintro e w6 ⟨rfl, b6⟩; have g0 : w6.cell? ⟨w.heap.size, 0, none⟩ = some (.int .i64 a0) := cell_keep b6 (by go_simp); have g2 : w6.cell? ⟨w.heap.size, 2, none⟩ = some (.int .u32 a2) := cell_keep b6 (by go_simp); have g6 : w6.cell? ⟨w.heap.size, 6, none⟩ = some (.bool a6) := cell_keep b6 (by go_simp); have hB6 := bld_below (by exact HI2.out) b6; have D6 : Below w1.heap.size w1 w6 := below_via b6 (by first | exact pw_below_drewN HD' _ | exact HD' | exact below_drew1 HD'))
          | (go_at_call 46; refine (Bld.WriteString w1.heap.size w1.heap.size _ _ _ hB6 (four_le HLEN.out _) D6.size).mono ?_; rintro e w7 ⟨rfl, h7, b7, k7⟩; have r0 := (b7.cell (p := ⟨w.heap.size, 0, none⟩) (blk_lt B1)).trans g0; have r2 := (b7.cell (p := ⟨w.heap.size, 2, none⟩) (blk_lt B1)).trans g2; have r6 := (b7.cell (p := ⟨w.heap.size, 6, none⟩) (blk_lt B1)).trans g6))
      have D7 := D6.trans b7
      rw [four_cells] at h7
      go_wp2_with fail
      refine (Tryd.Builder_String_any_k w1.heap.size w1.heap.size _ _ (.inr h7) D7.size).mono ?_
      rintro e w8 ⟨rfl, _, b8, _⟩
      go_wp2
      go_ret
      have hz : a7.data.toList.length = a7.size := by rw [Array.length_toList]; rfl
      refine ⟨?_, D1.trans ((D7.trans b8).mono D1.size)⟩
      unfold bytesL lastW
      rw [hz]
      simp only [List.append_assoc]
      rfl

set_option maxHeartbeats 8000000 in
set_option maxRecDepth 1000000 in
theorem Bytes_bad (k : Nat) (a0 a1 a2 a3 a4 : Int) (A5 : Option Addr) (c5 : Nat) (l5 : List Int) (a6 : Bool) (a7 : ByteArray) (c : Int) (w : World) (hr : Kd.C (Kd.int .u32) w A5 l5.length l5) (hcap : l5.length ≤ c5)
    (hc : pdu_PDU_Check.f k a0 a1 a2 a3 a4 l5 a6 a7 = some c) (h0 : (c != 0) = true) :
    Calls Tryd.prog 20 #[.agg #[.int .i64 a0, .int .i64 a1, .int .u32 a2, .int .u32 a3, .int .u32 a4, .slice A5 l5.length c5, .bool a6, .string a7]] w fun e w' => e = .returned (.string ⟨#[]⟩) ∧ Below w.heap.size w w' := by
  have HC := Lib.hid hc
  have HR := Lib.hid hr
  clear hc hr
  go_enter Tryd.func20, Tryd.ntmps20
  go_wp2_with fail
  refine (pdu_PDU_Check.calls k a0 a1 a2 a3 a4 A5 c5 l5 a6 a7 c _ (Kd.C_below HR.out (below_alloc (Below.refl _ _) _)) hcap HC.out).mono ?_
  rintro e w1 ⟨rfl, hb1⟩
  have D1 : Below w.heap.size w w1 := (below_alloc (Below.refl _ _) _).trans (hb1.mono (by simp))
  clear hb1
  go_wp2
  go_ret
  exact ⟨rfl, D1⟩

/-- pdu.PDU.Bytes: what it gives. -/
def pdu_PDU_Bytes.f (k : Nat) (a0 a1 a2 a3 a4 : Int) (l5 : List Int) (a6 : Bool) (a7 : ByteArray) : Option ByteArray :=
  (pdu_PDU_Check.f k a0 a1 a2 a3 a4 l5 a6 a7).bind fun c => if (c != 0) = true then some ⟨#[]⟩ else (pdu_PDU_words.f k a0 a1 a2 a3 a4 l5 a6 a7).bind fun ws => if a7.size ≤ 1000000 ∧ ws.length ≤ 1000000 then some ⟨(bytesL a0 a2 a6 a7.data.toList ws).toArray⟩ else none
theorem pdu_PDU_Bytes.mono : ∀ a0 a1 a2 a3 a4 a5 a6 a7 k, LeO (pdu_PDU_Bytes.f k a0 a1 a2 a3 a4 a5 a6 a7) (pdu_PDU_Bytes.f (k + 1) a0 a1 a2 a3 a4 a5 a6 a7) := by
  intro a0 a1 a2 a3 a4 a5 a6 a7 k
  unfold pdu_PDU_Bytes.f
  refine LeO.bind (pdu_PDU_Check.mono _ _ _ _ _ _ _ _ _) (fun c => ?_)
  refine LeO.ite (LeO.refl _) ?_
  exact LeO.bind (pdu_PDU_words.mono _ _ _ _ _ _ _ _ _) (fun ws => LeO.refl _)
theorem pdu_PDU_Bytes.calls (k : Nat) (a0_0 : Int) (a0_1 : Int) (a0_2 : Int) (a0_3 : Int) (a0_4 : Int) (A0_5 : Option Addr) (c0_5 : Nat) (l0_5 : List Int) (a0_6 : Bool) (a0_7 : ByteArray) (r : ByteArray) (w : World) (hr0_5 : Kd.C (Kd.int .u32) w A0_5 l0_5.length l0_5) (hc0_5 : l0_5.length ≤ c0_5) (h : pdu_PDU_Bytes.f k a0_0 a0_1 a0_2 a0_3 a0_4 l0_5 a0_6 a0_7 = some r) :
    Calls Tryd.prog 20 #[.agg #[.int .i64 a0_0, .int .i64 a0_1, .int .u32 a0_2, .int .u32 a0_3, .int .u32 a0_4, .slice A0_5 l0_5.length c0_5, .bool a0_6, .string a0_7]] w fun e w' => e = .returned (.string r) ∧ Below w.heap.size w w' := by
  unfold pdu_PDU_Bytes.f at h
  obtain ⟨c, hc, h⟩ := Option.bind_eq_some_iff.1 h
  split at h
  · rename_i h0
    obtain rfl := Option.some.inj h
    exact Bytes_bad k a0_0 a0_1 a0_2 a0_3 a0_4 A0_5 c0_5 l0_5 a0_6 a0_7 c w hr0_5 hc0_5 hc h0
  · rename_i h0
    obtain rfl : c = 0 := by simpa using h0
    obtain ⟨ws, hw, h⟩ := Option.bind_eq_some_iff.1 h
    split at h
    · rename_i hs
      obtain rfl := Option.some.inj h
      exact Bytes_ok k a0_0 a0_1 a0_2 a0_3 a0_4 A0_5 c0_5 l0_5 a0_6 a0_7 ws w hr0_5 hc0_5 hc hw hs.1 hs.2
    · simp at h
end Go.Proofs.YtjbnihaekgmhlaaDoor
