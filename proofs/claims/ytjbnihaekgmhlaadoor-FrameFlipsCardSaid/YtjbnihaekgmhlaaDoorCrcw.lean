/- crc.Make, crc.Table's Sum, Fits, Seal at this translation: their walks. -/
import Derived.Test.YtjbnihaekgmhlaaDoorCrcp
import Derived.Test.YtjbnihaekgmhlaaDoorPr0
import Derived.Test.YtjbnihaekgmhlaaDoorAid
import Derived.WalkKit
import Derived.Lib.Hide
import Derived.Laws.Rows
import Derived.Laws.Tables
import Derived.Laws.CopyOwn
import Derived.Outline
namespace Go.Proofs.YtjbnihaekgmhlaaDoor
open Go.RowKit Pr Go.Proofs.YtjbnihaekgmhlaaDoorW.PrintWords
set_option linter.unusedVariables false
set_option linter.unusedSimpArgs false

def tabI (k : Nat) : Int := ((PolCrc.tab (BitVec.ofNat 8 k)).toNat : Int)
/-- The table, its first n entries made. -/
def tabN (n : Nat) : Array Value := ((List.range 256).map fun k => if k < n then Value.int .u32 (tabI k) else .int .u32 0).toArray
theorem tabN_size (n : Nat) : (tabN n).size = 256 := by simp [tabN]
theorem tabN_zero : Array.replicate 256 (Value.int .u32 0) = tabN 0 := by
  apply Array.ext
  · simp [tabN]
  · intro i h1 h2
    simp [tabN]
theorem tabN_next (n : Nat) (h : n < 256) : (tabN n).setIfInBounds n (.int .u32 (tabI n)) = tabN (n + 1) := by
  apply Array.ext
  · simp [tabN]
  · intro i h1 h2
    have hi : i < 256 := by rw [tabN_size] at h2; exact h2
    rw [Array.getElem_setIfInBounds (by rw [tabN_size]; exact hi)]
    simp only [tabN, List.getElem_toArray, List.getElem_map, List.getElem_range]
    by_cases q : n = i
    · subst q
      rw [if_pos rfl, if_pos (by omega)]
    · rw [if_neg q]
      by_cases q2 : i < n
      · rw [if_pos q2, if_pos (by omega)]
      · rw [if_neg q2, if_neg (by omega)]
theorem tabN_at (k : Nat) (h : k < 256) : (tabN 256)[k]? = some (.int .u32 (tabI k)) := by
  rw [Array.getElem?_eq_getElem (by rw [tabN_size]; exact h)]
  simp only [tabN, List.getElem_toArray, List.getElem_map, List.getElem_range]
  rw [if_pos h]
theorem tabN_new (k : Nat) (h : k < 256) : (tabN k)[k]? = some (.int .u32 0) := by
  rw [Array.getElem?_eq_getElem (by rw [tabN_size]; exact h)]
  simp only [tabN, List.getElem_toArray, List.getElem_map, List.getElem_range]
  rw [if_neg (by omega)]
theorem tabN_one (n : Nat) : (tabN n).all (·.oneCell') = true := by
  rw [Array.all_eq_true]
  intro i hi
  simp only [tabN, List.getElem_toArray, List.getElem_map, List.getElem_range]
  split <;> rfl
set_option maxRecDepth 100000 in
theorem tab_info : (Tryd.prog.info? 27).map (fun i => (i.zero, i.size)) = some (some (.agg (Array.replicate 256 (.int .u32 0))), 256) := by kernel_rfl
theorem tab_und : Tryd.prog.underlying 27 = some (.array 256 25) := by kernel_rfl
theorem tab_size : (Tryd.prog.info? 27).map (·.size) = some 256 := by
  have h := tab_info
  cases hq : Tryd.prog.info? 27 with
  | none => rw [hq] at h; simp at h
  | some i => rw [hq] at h; simp only [Option.map_some, Option.some.injEq, Prod.mk.injEq] at h; simp [h.2]
theorem run_alloc_tab {o : Oper} {a : Act} {w : World} (ho : o.op = .alloc 27) : (execOp a.eval o).run Tryd.prog w = .ok (.value (.pointer (some ⟨w.heap.size, 0, none⟩))) (w.alloc (.cells (tabN 0) 27 (0, 0))) := by
  have h := tab_info
  cases hq : Tryd.prog.info? 27 with
  | none => rw [hq] at h; simp at h
  | some i =>
    rw [hq] at h
    simp only [Option.map_some, Option.some.injEq, Prod.mk.injEq] at h
    rw [← tabN_zero]
    unfold execOp
    simp [ho, Instr.alloc, zeroValue, typeInfo, hq, h.1, newVar, Value.cells, newRow]

/-! crc.Make. -/
theorem tabI_sn (k : Nat) : tabI k = ((PolCrc.sn 8 (((BitVec.ofNat 8 k).setWidth 32) <<< 24)).toNat : Int) := rfl
theorem tab_start (k : Nat) (h : k < 256) : (k : Int) * (16777216 : Int) = (((((BitVec.ofNat 8 k).setWidth 32) <<< 24 : BitVec 32).toNat : Nat) : Int) := by
  rw [BitVec.toNat_shiftLeft, BitVec.toNat_setWidth, BitVec.toNat_ofNat, Nat.shiftLeft_eq]
  omega
theorem sn_succ' (n : Nat) (x : BitVec 32) : PolCrc.sn (n + 1) x = PolCrc.s1 (PolCrc.sn n x) := by
  have := PolCrc.sn_add n 1 x
  simpa [PolCrc.sn] using this
theorem sn_bd (n : Nat) (x : BitVec 32) : 0 ≤ ((PolCrc.sn n x).toNat : Int) ∧ ((PolCrc.sn n x).toNat : Int) < 4294967296 := ⟨by omega, PolCrc.toNat_lt32 _⟩
set_option maxHeartbeats 8000000 in
set_option maxRecDepth 100000 in
theorem Make_any (w : World) : Calls Tryd.prog 15 #[] w fun e w' => e = .returned (.agg (tabN 256)) ∧ Below w.heap.size w w' := by
  go_enter Tryd.func15, Tryd.ntmps15
  go_wp2_with (first | ((with_reducible refine gate_dst (N := 0) rfl ?_); refine box_event ?hg (N := 0) ?hd (cs := tabN 0) (t := 27) ?hr ?_; (case hd => rfl); (case hg => rfl); (case hr => exact run_alloc_tab rfl); intro gq hg_ w1 hbox hb3; have HGgq := Lib.hid hg_; have HBgq := Lib.hid hb3; have HXgq := Lib.hid hbox; clear hg_ hb3 hbox) | ((with_reducible refine gate_dst (N := 1) rfl ?_); refine box_event ?hg (N := 1) ?hd (cs := tabN 0) (t := 27) ?hr ?_; (case hd => rfl); (case hg => rfl); (case hr => exact run_alloc_tab rfl); intro gt hg_ w2 hbox hb3; have HGgt := Lib.hid hg_; have HBgt := Lib.hid hb3; have HXgt := Lib.hid hbox; clear hg_ hb3 hbox))
  have B2 := Lib.hid (below_step HBgq.out HBgt.out)
  have Q2 := Lib.hid (blk_below HXgq.out HBgt.out)
  have q3 : gq ≠ gt := by rw [HGgt.out]; exact Nat.ne_of_lt (blk_lt HXgq.out)
  have q4 : w.heap.size ≤ gt := by rw [HGgt.out]; exact HBgq.out.size
  have q5 : w.heap.size ≤ gq := by rw [HGgq.out]; exact Nat.le_refl _
  have HQ3 := Lib.hid q3
  have HQ4 := Lib.hid q4
  have HQ5 := Lib.hid q5
  clear q3 q4 q5
  go_loopw [5] (fun i wr => ∃ k : Nat, k ≤ 256 ∧ i = .int .i64 k ∧ Hid (wr.heap[gt]? = some (.cells (tabN k) 27 (0, 0))) ∧ Hid (wr.heap[gq]? = some (.cells (tabN 0) 27 (0, 0))) ∧ Hid (Below w.heap.size w wr)) (fun i _ => 256 - (intOf i).toNat)
  case atStart => exact ⟨0, by omega, rfl, HXgt, Q2, B2⟩
  case round =>
    obtain ⟨k, hk, rfl, HT, HQ, HB⟩ := hrel
    by_cases hlt : k < 256
    · have hs := tab_start k hlt
      have HS := Lib.hid hs
      clear hs
      go_wp2
      obtain ⟨wo, rfl⟩ : ∃ wo : World, wo = wr := ⟨_, rfl⟩
      obtain ⟨X, hX⟩ : ∃ X : BitVec 32, ((BitVec.ofNat 8 k).setWidth 32) <<< 24 = X := ⟨_, rfl⟩
      have HX := Lib.hid hX
      clear hX
      go_loop [3, 11] (fun x i => ∃ j : Nat, j ≤ 8 ∧ i = .int .i64 j ∧ x = .int .u32 ((PolCrc.sn j X).toNat : Int)) (fun _ i => 8 - (intOf i).toNat)
      case atStart => exact ⟨0, by omega, rfl, by rw [HS.out, HX.out]; rfl⟩
      case round =>
        obtain ⟨j, hj, rfl, rfl⟩ := hrel
        by_cases hlj : j < 8
        · obtain ⟨v, hv⟩ : ∃ v : Int, ((PolCrc.sn j X).toNat : Int) = v := ⟨_, rfl⟩
          have hv0 : 0 ≤ v := by omega
          have hv1 : v < 4294967296 := by have := PolCrc.toNat_lt32 (PolCrc.sn j X); omega
          rw [hv]
          have HV := Lib.hid hv
          clear hv
          go_wp2
          go_round
          case rel => exact ⟨j + 1, by omega, by go_num, by rw [sn_succ', ← PolCrc.step_make3 _ v HV.out.symm]⟩
          case measure => simp [intOf]; omega
        · obtain rfl : j = 8 := by omega
          have e8 : ((PolCrc.sn 8 X).toNat : Int) = tabI k := by rw [tabI_sn, HX.out]
          rw [e8]
          clear e8
          have ck := (blk_cell HT.out k).trans (tabN_new k hlt)
          have zk := blk_frozen HT.out k
          go_wp2
          go_roundw
          case rel =>
            refine ⟨k + 1, by omega, by go_num, Lib.hid ?_, Lib.hid (blk_far (p := ⟨gt, k, none⟩) HQ.out HQ3.out _), Lib.hid (HB.out.setCell (p := ⟨gt, k, none⟩) HQ4.out _)⟩
            rw [← tabN_next k hlt]
            exact blk_set HT.out k _
          case measure => simp [intOf]; omega
    · obtain rfl : k = 256 := by omega
      go_wp2_with (first | ((with_reducible refine gate_dst (N := 25) rfl ?_); refine wpList_load_row rfl 27 _ rfl gt rfl 27 (tabN 256) (0, 0) _ HT.out tab_und rfl (by rw [tab_size, tabN_size]) ?_) | (refine wpList_store_row rfl 27 _ _ rfl gq (tabN 256) rfl rfl 27 (tabN 0) HQ.out (by rw [tab_size, tabN_size]) (by rw [tabN_size, tabN_size]) (tabN_one _) ?_))
      refine bodyPost_ret (results_cell_row rfl _ _ gq 27 (tabN 256) (0, 0) _ rfl (setRow_heap wr gq _ _ _ _ HQ.out) tab_und rfl (by rw [tab_size, tabN_size])) rfl ?_
      exact ⟨rfl, below_setRow HB.out HQ5.out _⟩
end Go.Proofs.YtjbnihaekgmhlaaDoor
