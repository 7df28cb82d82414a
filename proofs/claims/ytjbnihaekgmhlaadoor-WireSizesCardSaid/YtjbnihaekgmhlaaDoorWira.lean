/- polliwoglaw07.awake: its walk. -/
import Derived.Test.YtjbnihaekgmhlaaDoorFrma
import Derived.Test.YtjbnihaekgmhlaaDoorParc
namespace Go.Proofs.YtjbnihaekgmhlaaDoor
open Go.RowKit Pr Go.Proofs.YtjbnihaekgmhlaaDoorW.PrintWords
set_option linter.unusedVariables false
set_option linter.unusedSimpArgs false

theorem fold_set : ∀ (l : List Value) (k : Nat) (cs : Array Value), k + l.length = cs.size → ((l.zipIdx k).foldl (fun cs x => cs.setIfInBounds x.2 x.1) cs).toList = cs.toList.take k ++ l
  | [], k, cs, h => by
    simp only [List.length_nil, Nat.add_zero] at h
    rw [List.append_nil, List.take_of_length_le (by rw [Array.length_toList]; omega)]
    rfl
  | v :: l, k, cs, h => by
    rw [List.length_cons] at h
    rw [List.zipIdx_cons, List.foldl_cons, fold_set l (k + 1) _ (by rw [Array.size_setIfInBounds]; omega)]
    rw [Array.toList_setIfInBounds, List.take_add_one, List.take_set_of_le (Nat.le_refl k)]
    simp [List.getElem?_set_self, show k < cs.size by omega]
theorem fold_tab (z : Array Value) (hz : z.size = 256) : Array.foldl (fun (cs : Array Value) (x : Value × Nat) => cs.setIfInBounds x.snd x.fst) z (tabN 256).zipIdx 0 (tabN 256).size = tabN 256 := by
  apply Array.toList_inj.1
  have e : (tabN 256).size = (tabN 256).zipIdx.size := by simp
  rw [e, ← Array.foldl_toList, Array.toList_zipIdx, fold_set _ 0 z (by rw [Array.length_toList, tabN_size, hz])]
  simp
set_option maxHeartbeats 8000000 in
set_option maxRecDepth 100000 in
theorem New_any (w : World) : Calls Tryd.prog 14 #[] w fun e w' => ∃ g, e = .returned (.pointer (some ⟨g, 0, none⟩)) ∧ IsTab w' g ∧ Below w.heap.size w w' := by
  go_enter Tryd.func14, Tryd.ntmps14
  go_wp2_with fail
  refine (Make_any _).mono ?_
  rintro e w1 ⟨rfl, b1⟩
  have B1 := Lib.hid b1
  clear b1
  go_wp2_with fail
  rw [fold_tab Tryd.zeroCells80 (by kernel_rfl)]
  go_ret
  exact ⟨_, rfl, ⟨_, blk_new _ _⟩, below_alloc B1.out _⟩
/-- Is it whole cells, and does its sum fit? -/
def soundB (s : ByteArray) : Bool := decide (s.size ≠ 0) && decide (s.size % 48 = 0) && fitsB s.data.toList
set_option maxHeartbeats 8000000 in
set_option maxRecDepth 100000 in
theorem Sound_any (s : ByteArray) (g : Nat) (w : World) (hs : s.size ≤ 1000000) (hT : IsTab w g) :
    Calls Tryd.prog 25 #[.pointer (some ⟨g, 0, none⟩), .string s] w fun e w' => e = .returned (.bool (soundB s)) ∧ Below w.heap.size w w' := by
  have HT := Lib.hid hT
  clear hT
  go_enter Tryd.func25, Tryd.ntmps25
  by_cases h0 : s.size = 0
  · have e : s = ⟨#[]⟩ := by
      apply ByteArray.ext
      exact Array.eq_empty_of_size_eq_zero h0
    subst e
    go_wp2
    go_ret
    exact ⟨rfl, Below.refl _ _⟩
  · have hne : (s.toList == ([] : List UInt8)) = false := by
      rw [beq_eq_false_iff_ne]
      intro h
      rw [ByteArray.toList_eq] at h
      apply h0
      show s.data.size = 0
      rw [← Array.length_toList, h]
      rfl
    by_cases h1 : s.size % 48 = 0
    · have h2 : (s.size : Int) % 48 = 0 := by omega
      go_wp2_with fail
      refine (Fits_any s g _ (by omega) HT.out).mono ?_
      rintro e w1 ⟨rfl, b1⟩
      go_wp2
      go_ret
      refine ⟨?_, b1⟩
      unfold soundB
      simp [h0, h1]
    · have h2 : ¬ (s.size : Int) % 48 = 0 := by omega
      have h3 : ((s.size : Int) % 48 == 0) = false := by simpa using h2
      go_wp2
      go_ret
      refine ⟨?_, Below.refl _ _⟩
      unfold soundB
      simp [h0, h1]
end Go.Proofs.YtjbnihaekgmhlaaDoor
namespace Go.Proofs.YtjbnihaekgmhlaaDoor
open Go.RowKit Pr Go.Proofs.YtjbnihaekgmhlaaDoorW.PrintWords
set_option linter.unusedVariables false
set_option linter.unusedSimpArgs false

set_option maxHeartbeats 8000000 in
set_option maxRecDepth 100000 in
theorem Pack_bad (k : Nat) (a0 a1 a2 a3 a4 : Int) (A5 : Option Addr) (c5 : Nat) (l5 : List Int) (a6 : Bool) (a7 : ByteArray) (g : Nat) (c : Int) (w : World) (hr : Kd.C (Kd.int .u32) w A5 l5.length l5) (hcap : l5.length ≤ c5) (hc : pdu_PDU_Check.f k a0 a1 a2 a3 a4 l5 a6 a7 = some c) (h0 : (c != 0) = true) :
    Calls Tryd.prog 18 #[.pointer (some ⟨g, 0, none⟩), .agg #[.int .i64 a0, .int .i64 a1, .int .u32 a2, .int .u32 a3, .int .u32 a4, .slice A5 l5.length c5, .bool a6, .string a7]] w fun e w' => e = .returned (.tuple #[.string ⟨#[]⟩, .int .i64 c]) ∧ Below w.heap.size w w' := by
  have HC := Lib.hid hc
  have HR := Lib.hid hr
  clear hc hr
  go_enter Tryd.func18, Tryd.ntmps18
  go_wp2_with fail
  refine (pdu_PDU_Check.calls k a0 a1 a2 a3 a4 A5 c5 l5 a6 a7 c _ (Kd.C_below HR.out (below_alloc (Below.refl _ _) _)) hcap HC.out).mono ?_
  rintro e w1 ⟨rfl, hb1⟩
  have D1 : Below w.heap.size w w1 := (below_alloc (Below.refl _ _) _).trans (hb1.mono (by simp))
  clear hb1
  go_wp2
  go_ret2
  exact ⟨rfl, D1⟩
set_option maxHeartbeats 8000000 in
set_option maxRecDepth 100000 in
theorem Pack_ok (k : Nat) (a0 a1 a2 a3 a4 : Int) (A5 : Option Addr) (c5 : Nat) (l5 : List Int) (a6 : Bool) (a7 : ByteArray) (g : Nat) (b : ByteArray) (w : World) (hr : Kd.C (Kd.int .u32) w A5 l5.length l5) (hcap : l5.length ≤ c5) (hc : pdu_PDU_Check.f k a0 a1 a2 a3 a4 l5 a6 a7 = some 0) (hb : pdu_PDU_Bytes.f k a0 a1 a2 a3 a4 l5 a6 a7 = some b) (hbs : b.size ≤ 65535) (hT : IsTab w g) :
    Calls Tryd.prog 18 #[.pointer (some ⟨g, 0, none⟩), .agg #[.int .i64 a0, .int .i64 a1, .int .u32 a2, .int .u32 a3, .int .u32 a4, .slice A5 l5.length c5, .bool a6, .string a7]] w fun e w' => e = .returned (.tuple #[.string ⟨(frameL 0 b.data.toList).toArray⟩, .int .i64 0]) ∧ Below w.heap.size w w' := by
  have HC := Lib.hid hc
  have HB := Lib.hid hb
  have HR := Lib.hid hr
  have HT := Lib.hid hT
  clear hc hr hb hT
  go_enter Tryd.func18, Tryd.ntmps18
  go_wp2_with fail
  refine (pdu_PDU_Check.calls k a0 a1 a2 a3 a4 A5 c5 l5 a6 a7 0 _ (Kd.C_below HR.out (below_alloc (Below.refl _ _) _)) hcap HC.out).mono ?_
  rintro e w1 ⟨rfl, hb1⟩
  have B1 := Lib.hid (blk_below (blk_new w _) hb1)
  have D1 : Hid (Below w.heap.size w w1) := Lib.hid ((below_alloc (Below.refl _ _) _).trans (hb1.mono (by simp)))
  clear hb1
  have d0 : w1.cell? ⟨w.heap.size, 0, none⟩ = some (.int .i64 a0) := (blk_cell B1.out 0).trans rfl
  have d1 : w1.cell? ⟨w.heap.size, 1, none⟩ = some (.int .i64 a1) := (blk_cell B1.out 1).trans rfl
  have d2 : w1.cell? ⟨w.heap.size, 2, none⟩ = some (.int .u32 a2) := (blk_cell B1.out 2).trans rfl
  have d3 : w1.cell? ⟨w.heap.size, 3, none⟩ = some (.int .u32 a3) := (blk_cell B1.out 3).trans rfl
  have d4 : w1.cell? ⟨w.heap.size, 4, none⟩ = some (.int .u32 a4) := (blk_cell B1.out 4).trans rfl
  have d5 : w1.cell? ⟨w.heap.size, 5, none⟩ = some (.slice A5 l5.length c5) := (blk_cell B1.out 5).trans rfl
  have d6 : w1.cell? ⟨w.heap.size, 6, none⟩ = some (.bool a6) := (blk_cell B1.out 6).trans rfl
  have d7 : w1.cell? ⟨w.heap.size, 7, none⟩ = some (.string a7) := (blk_cell B1.out 7).trans rfl
  go_wp2_with fail
  go_region_held3 (fun w' => w'.cell? ⟨w.heap.size, 0, none⟩ = some (.int .i64 a0) ∧ w'.cell? ⟨w.heap.size, 1, none⟩ = some (.int .i64 a1) ∧ w'.cell? ⟨w.heap.size, 2, none⟩ = some (.int .u32 a2) ∧ w'.cell? ⟨w.heap.size, 3, none⟩ = some (.int .u32 a3) ∧ w'.cell? ⟨w.heap.size, 4, none⟩ = some (.int .u32 a4) ∧ w'.cell? ⟨w.heap.size, 5, none⟩ = some (.slice A5 l5.length c5) ∧ w'.cell? ⟨w.heap.size, 6, none⟩ = some (.bool a6) ∧ w'.cell? ⟨w.heap.size, 7, none⟩ = some (.string a7)) (first | assumption | go_keep)
    (first
      | (go_at_call 20; refine (pdu_PDU_Bytes.calls k a0 a1 a2 a3 a4 A5 c5 l5 a6 a7 b _ (Kd.C_below HR.out (by first | exact D1.out | exact below_drew1 D1.out | exact pw_below_drewN D1.out _)) hcap HB.out).mono ?_; rintro e w2 ⟨rfl, b2⟩; have D2 : Hid (Below w.heap.size w w2) := Lib.hid (below_via b2 (by first | exact D1.out | exact below_drew1 D1.out | exact pw_below_drewN D1.out _)); have g0 : w2.cell? ⟨w.heap.size, 0, none⟩ = some (.int .i64 a0) := cell_keep b2 (by go_simp); have g1 : w2.cell? ⟨w.heap.size, 1, none⟩ = some (.int .i64 a1) := cell_keep b2 (by go_simp); have g2 : w2.cell? ⟨w.heap.size, 2, none⟩ = some (.int .u32 a2) := cell_keep b2 (by go_simp); have g3 : w2.cell? ⟨w.heap.size, 3, none⟩ = some (.int .u32 a3) := cell_keep b2 (by go_simp); have g4 : w2.cell? ⟨w.heap.size, 4, none⟩ = some (.int .u32 a4) := cell_keep b2 (by go_simp); have g5 : w2.cell? ⟨w.heap.size, 5, none⟩ = some (.slice A5 l5.length c5) := cell_keep b2 (by go_simp); have g6 : w2.cell? ⟨w.heap.size, 6, none⟩ = some (.bool a6) := cell_keep b2 (by go_simp); have g7 : w2.cell? ⟨w.heap.size, 7, none⟩ = some (.string a7) := cell_keep b2 (by go_simp))
      | (go_at_call 21; refine (FBytes_ok 0 b g _ (by omega) (by omega) hbs (HT.out.below (by first | exact D2.out | exact below_drew1 D2.out | exact pw_below_drewN D2.out _))).mono ?_; rintro e w3 ⟨rfl, b3⟩; have D3 : Hid (Below w.heap.size w w3) := Lib.hid (below_via b3 (by first | exact D2.out | exact below_drew1 D2.out | exact pw_below_drewN D2.out _)); have k0 : w3.cell? ⟨w.heap.size, 0, none⟩ = some (.int .i64 a0) := cell_keep b3 (by go_simp); have k1 : w3.cell? ⟨w.heap.size, 1, none⟩ = some (.int .i64 a1) := cell_keep b3 (by go_simp); have k2 : w3.cell? ⟨w.heap.size, 2, none⟩ = some (.int .u32 a2) := cell_keep b3 (by go_simp); have k3 : w3.cell? ⟨w.heap.size, 3, none⟩ = some (.int .u32 a3) := cell_keep b3 (by go_simp); have k4 : w3.cell? ⟨w.heap.size, 4, none⟩ = some (.int .u32 a4) := cell_keep b3 (by go_simp); have k5 : w3.cell? ⟨w.heap.size, 5, none⟩ = some (.slice A5 l5.length c5) := cell_keep b3 (by go_simp); have k6 : w3.cell? ⟨w.heap.size, 6, none⟩ = some (.bool a6) := cell_keep b3 (by go_simp); have k7 : w3.cell? ⟨w.heap.size, 7, none⟩ = some (.string a7) := cell_keep b3 (by go_simp)))
  go_wp2
  go_ret2
  exact ⟨rfl, D3.out⟩
set_option maxHeartbeats 8000000 in
set_option maxRecDepth 100000 in
theorem Open_bad (s : ByteArray) (g : Nat) (u : Int) (d : ByteArray) (n : Int) (w : World) (hs : s.size ≤ 1000000) (hT : IsTab w g) (hp : parseF s = (u, d, n)) (h0 : (n != 0) = true) :
    Calls Tryd.prog 24 #[.pointer (some ⟨g, 0, none⟩), .string s] w fun e w' => e = .returned (.tuple #[.agg #[.int .i64 0, .int .i64 0, .int .u32 0, .int .u32 0, .int .u32 0, .slice none 0 0, .bool false, .string (⟨#[]⟩ : ByteArray)], .int .i64 n]) ∧ Below w.heap.size w w' := by
  have HT := Lib.hid hT
  have HP := Lib.hid hp
  clear hT hp
  go_enter Tryd.func24, Tryd.ntmps24
  go_wp2_with fail
  refine (FParse_any s g _ hs (HT.out.below (below_alloc (Below.refl _ _) _))).mono ?_
  rintro e w1 ⟨rfl, b1⟩
  rw [HP.out]
  have X1 := Lib.hid (blk_below (blk_new w _) b1)
  have B1 := Lib.hid (bel_via b1 (below_alloc (Below.refl w.heap.size w) _))
  clear b1
  go_upto_region 3 with fail
  have X2 := Lib.hid (blk_alloc X1.out (.cells #[.int .u8 u, .string d] 44 (0, 0)))
  have B2 := Lib.hid (below_alloc B1.out (.cells #[.int .u8 u, .string d] 44 (0, 0)))
  generalize w1.alloc (.cells #[.int .u8 u, .string d] 44 (0, 0)) = w2 at X2 B2 ⊢
  obtain ⟨gq, hgq⟩ : ∃ gq, w.heap.size = gq := ⟨_, rfl⟩
  rw [hgq] at X2 ⊢
  have HG : Hid (w.heap.size ≤ gq) := Lib.hid (by rw [← hgq]; exact Nat.le_refl _)
  clear hgq
  have cgq0 := (blk_cell X2.out 0).trans rfl
  have zgq0 := blk_frozen X2.out 0
  have cgq1 := (blk_cell X2.out 1).trans rfl
  have zgq1 := blk_frozen X2.out 1
  have cgq2 := (blk_cell X2.out 2).trans rfl
  have zgq2 := blk_frozen X2.out 2
  have cgq3 := (blk_cell X2.out 3).trans rfl
  have zgq3 := blk_frozen X2.out 3
  have cgq4 := (blk_cell X2.out 4).trans rfl
  have zgq4 := blk_frozen X2.out 4
  have cgq5 := (blk_cell X2.out 5).trans rfl
  have zgq5 := blk_frozen X2.out 5
  have cgq6 := (blk_cell X2.out 6).trans rfl
  have zgq6 := blk_frozen X2.out 6
  have cgq7 := (blk_cell X2.out 7).trans rfl
  have zgq7 := blk_frozen X2.out 7
  go_wp2_with fail
  refine bodyPost_ret (results_ct rfl _ _ gq 32 #[.int .i64 0, .int .i64 0, .int .u32 0, .int .u32 0, .int .u32 0, .slice none 0 0, .bool false, .string (⟨#[]⟩ : ByteArray)] (0, 0) _ rfl (set8 X2.out _ _ _ _ _ _ _ _) Tryd.underlying32 rfl (by kernel_rfl)) rfl ?_
  exact ⟨rfl, bel8 B2.out HG.out _ _ _ _ _ _ _ _⟩
set_option maxHeartbeats 8000000 in
set_option maxRecDepth 100000 in
theorem Open_unit (s : ByteArray) (g : Nat) (k : Nat) (d : ByteArray) (r1 r2 r3 r4 r5 : Int) (r6 : List Int) (r7 : Bool) (r8 : ByteArray) (r9 : Int) (w : World) (hs : s.size ≤ 1000000) (hT : IsTab w g) (hp : parseF s = (0, d, 0)) (hq : pdu_Parse.f k d = some (r1, r2, r3, r4, r5, r6, r7, r8, r9)) :
    Calls Tryd.prog 24 #[.pointer (some ⟨g, 0, none⟩), .string s] w fun e w' => ∃ v5_ : Value, e = .returned (.tuple #[.agg #[.int .i64 r1, .int .i64 r2, .int .u32 r3, .int .u32 r4, .int .u32 r5, v5_, .bool r7, .string r8], .int .i64 r9]) ∧ Kd.R (Kd.int .u32) 29 w' w.heap.size (fun _ => True) v5_ r6 ∧ Below w.heap.size w w' := by
  have HT := Lib.hid hT
  have HP := Lib.hid hp
  have HQ := Lib.hid hq
  clear hT hp hq
  go_enter Tryd.func24, Tryd.ntmps24
  go_wp2_with fail
  refine (FParse_any s g _ hs (HT.out.below (below_alloc (Below.refl _ _) _))).mono ?_
  rintro e w1 ⟨rfl, b1⟩
  rw [HP.out]
  have X1 := Lib.hid (blk_below (blk_new w _) b1)
  have B1 := Lib.hid (bel_via b1 (below_alloc (Below.refl w.heap.size w) _))
  clear b1
  go_wp2_with fail
  refine (pdu_Parse.calls k d r1 r2 r3 r4 r5 r6 r7 r8 r9 _ HQ.out).mono ?_
  rintro e w2 ⟨v5_, rfl, hR, b2⟩
  obtain ⟨A6, c6, rfl⟩ : ∃ A c, v5_ = .slice A r6.length c := Kd.R_slice hR
  have X2 := Lib.hid (blk_below (blk_alloc X1.out (.cells #[.int .u8 0, .string d] 44 (0, 0))) b2)
  have B2 := Lib.hid (bel_via b2 (below_alloc B1.out (.cells #[.int .u8 0, .string d] 44 (0, 0))))
  have HR := Lib.hid (Kd.R_lower (Kd.R_newB hR (blk_alloc X1.out (.cells #[.int .u8 0, .string d] 44 (0, 0)))) (below_alloc B1.out (.cells #[.int .u8 0, .string d] 44 (0, 0))).size)
  clear hR b2
  obtain ⟨gq, hgq⟩ : ∃ gq, w.heap.size = gq := ⟨_, rfl⟩
  rw [hgq] at X2 HR ⊢
  have HG : Hid (w.heap.size ≤ gq) := Lib.hid (by rw [← hgq]; exact Nat.le_refl _)
  clear hgq
  have cgq0 := (blk_cell X2.out 0).trans rfl
  have zgq0 := blk_frozen X2.out 0
  have cgq1 := (blk_cell X2.out 1).trans rfl
  have zgq1 := blk_frozen X2.out 1
  have cgq2 := (blk_cell X2.out 2).trans rfl
  have zgq2 := blk_frozen X2.out 2
  have cgq3 := (blk_cell X2.out 3).trans rfl
  have zgq3 := blk_frozen X2.out 3
  have cgq4 := (blk_cell X2.out 4).trans rfl
  have zgq4 := blk_frozen X2.out 4
  have cgq5 := (blk_cell X2.out 5).trans rfl
  have zgq5 := blk_frozen X2.out 5
  have cgq6 := (blk_cell X2.out 6).trans rfl
  have zgq6 := blk_frozen X2.out 6
  have cgq7 := (blk_cell X2.out 7).trans rfl
  have zgq7 := blk_frozen X2.out 7
  go_wp2_with fail
  refine bodyPost_ret (results_ct rfl _ _ gq 32 #[.int .i64 r1, .int .i64 r2, .int .u32 r3, .int .u32 r4, .int .u32 r5, .slice A6 r6.length c6, .bool r7, .string r8] (0, 0) _ rfl (set8 X2.out _ _ _ _ _ _ _ _) Tryd.underlying32 rfl (by kernel_rfl)) rfl ?_
  exact ⟨_, rfl, Kd.R_lower (Kd.R_mono (Kd.R_far (p := ⟨gq, 7, none⟩) (Kd.R_far (p := ⟨gq, 6, none⟩) (Kd.R_far (p := ⟨gq, 5, none⟩) (Kd.R_far (p := ⟨gq, 4, none⟩) (Kd.R_far (p := ⟨gq, 3, none⟩) (Kd.R_far (p := ⟨gq, 2, none⟩) (Kd.R_far (p := ⟨gq, 1, none⟩) (Kd.R_far (p := ⟨gq, 0, none⟩) (HR.out) (fun _ hk => hk.2) _) (fun _ hk => hk.2) _) (fun _ hk => hk.2) _) (fun _ hk => hk.2) _) (fun _ hk => hk.2) _) (fun _ hk => hk.2) _) (fun _ hk => hk.2) _) (fun _ hk => hk.2) _) (fun _ _ => trivial)) HG.out, bel8 B2.out HG.out _ _ _ _ _ _ _ _⟩
end Go.Proofs.YtjbnihaekgmhlaaDoor
namespace Go.Proofs.YtjbnihaekgmhlaaDoor
open Go.RowKit Pr Go.Proofs.YtjbnihaekgmhlaaDoorW.PrintWords
set_option linter.unusedVariables false
set_option linter.unusedSimpArgs false

def uX : ByteArray := ⟨#[120]⟩
def bX : ByteArray := ⟨(bytesP 13 0 0 0 0 [] false uX).toArray⟩
theorem uX_may : chkP 13 0 0 0 0 [] false uX = 0 := by decide +kernel
theorem uX_num : Num32 0 0 0 [] := ⟨by decide, by decide, by decide, by decide, by decide, by decide, (fun x hx => by simp at hx), by decide⟩
theorem bX_size : bX.size = 8 := by decide +kernel
theorem uX_check : pdu_PDU_Check.f 4000 13 0 0 0 0 [] false uX = some 0 := by rw [check_f 3996, uX_may]
theorem uX_bytes : pdu_PDU_Bytes.f 4000 13 0 0 0 0 [] false uX = some bX := by
  rw [bytes_f 4000 13 0 0 0 0 [] false uX (by decide) (by decide) (by decide), if_pos uX_may]
  rfl
theorem bX_parse : pdu_Parse.f 4000 bX = some (13, 0, 0, 0, 0, [], false, uX, 0) := parse_f 4000 13 0 0 0 0 [] false uX uX_num uX_may
/-- A packed frame: what it is. -/
theorem frame_sound (u : Int) (d : ByteArray) (hd : d.size ≤ 65535) : soundB ⟨(frameL u d.data.toList).toArray⟩ = true := by
  have hl : d.data.toList.length = d.size := by rw [Array.length_toList]; rfl
  have hf := frame_len u d.data.toList (by omega)
  rw [hl] at hf
  have hc := cells_bd (d.size : Int) (by omega) (by omega)
  unfold soundB
  rw [size_mk, decide_eq_true (by omega), decide_eq_true (by omega)]
  unfold frameL
  exact seal_fits _
theorem fX_size : (⟨(frameL 0 bX.data.toList).toArray⟩ : ByteArray).size = 48 := by
  have hl : bX.data.toList.length = 8 := by rw [Array.length_toList]; exact bX_size
  have hf := (frame_len 0 bX.data.toList (by omega)).1
  rw [hl] at hf
  rw [size_mk]
  have : cellsI ((8 : Nat) : Int) = 1 := by decide
  omega
set_option maxHeartbeats 8000000 in
set_option maxRecDepth 100000 in
theorem awake7_any (w : World) : Calls Tryd.prog 36 #[] w fun e w' => e = .returned (.bool true) ∧ Below w.heap.size w w' := by
  go_enter Tryd.func36, Tryd.ntmps36
  go_wp2_with fail
  refine (New_any _).mono ?_
  rintro e w1 ⟨g, rfl, t1, b1⟩
  have T1 := Lib.hid t1
  have B1 := Lib.hid b1
  clear t1 b1
  go_wp2_with fail
  refine (Pack_ok 4000 13 0 0 0 0 none 0 [] false uX g bX _ (Kd.C_nil _ _) (Nat.le_refl _) uX_check uX_bytes (by rw [bX_size]; decide) T1.out).mono ?_
  rintro e w2 ⟨rfl, b2⟩
  have T2 := Lib.hid (T1.out.below b2)
  have B2 := Lib.hid (bel_via b2 B1.out)
  have hp := parse_frame 0 bX (by decide) (by decide) (by rw [bX_size]; decide)
  have hn := fX_size
  have hs := frame_sound 0 bX (by rw [bX_size]; decide)
  obtain ⟨S, hS⟩ : ∃ q : ByteArray, (⟨(frameL 0 bX.data.toList).toArray⟩ : ByteArray) = q := ⟨_, rfl⟩
  rw [hS] at hp hn hs ⊢
  have HP := Lib.hid hp
  have HS := Lib.hid hs
  clear b2 T1 B1 hp hs hS
  go_wp2_with fail
  refine (Open_unit S g 4000 bX 13 0 0 0 0 [] false uX 0 _ (by omega) T2.out HP.out bX_parse).mono ?_
  rintro e w3 ⟨v5_, rfl, hR, b3⟩
  obtain ⟨A6, c6, rfl⟩ : ∃ A c, v5_ = .slice A ([] : List Int).length c := Kd.R_slice hR
  have T3 := Lib.hid (T2.out.below b3)
  have B3 := Lib.hid (bel_via b3 B2.out)
  clear hR b3 T2 B2
  have hux : uX.toList = [120] := by rw [ByteArray.toList_eq]; rfl
  go_wp2_with fail
  refine (Sound_any S g _ (by omega) (T3.out.below (below_alloc (Below.refl _ _) _))).mono ?_
  rintro e w4 ⟨rfl, b4⟩
  rw [HS.out]
  go_wp2
  go_ret
  exact ⟨rfl, bel_via b4 (below_alloc B3.out _)⟩
/-- polliwoglaw07.awake: what it gives. -/
def polliwoglaw07_awake.f : Option Bool := some true
theorem polliwoglaw07_awake.calls (r : Bool) (w : World) (h : polliwoglaw07_awake.f = some r) : Calls Tryd.prog 36 #[] w fun e w' => e = .returned (.bool r) ∧ Below w.heap.size w w' := by
  obtain rfl := Option.some.inj h
  exact awake7_any w
end Go.Proofs.YtjbnihaekgmhlaaDoor
